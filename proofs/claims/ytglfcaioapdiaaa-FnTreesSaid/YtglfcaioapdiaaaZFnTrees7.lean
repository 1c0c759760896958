/-
  What the law FnTrees rests on, part 7.
-/
import Derived.Test.YtglfcaioapdiaaaZFnTrees6
namespace Go.Proofs.Ytglfcaioapdiaaa.Bk
open Go Go.RowKit Go.Proofs.Ytglfcaioapdiaaa.Aw
set_option linter.unusedSimpArgs false
set_option linter.unusedVariables false
attribute [local irreducible] AW SQ Step RO RC DE Thn InB
set_option maxHeartbeats 4000000 in
theorem l00Put_ro (xs : List Int) (x : Int) (hn : xs.length ≤ 1048576) (k : Nat) : RO Try.prog 74 [.dsl 1 (xs.map inL), .v (.int .i64 x)] k (.sl k 0 (putV xs x).length) [(k, ⟨2, 1, true, (putV xs x).map inL⟩)] (k + 1) := by
  have hml : (xs.map inL).length = xs.length := List.length_map _
  generalize hQ : putV xs x = Q
  unfold putV at hQ
  refine RO.ofm (.sl 0 0 Q.length) ([(0, ⟨2, 1, true, Q.map inL⟩)]) 1 Try.func74 Try.ntmps74 rfl (goFn_of Try.func74 rfl (by kernel_rfl)) rfl rfl (by simp [renA, renL]) (by simp [shH, renB]) rfl ?_
  ((repeat' (first
    | (show SQ _ _ _ _ _ _ _ _; first | apply sq_nil | (apply q_assign; exact rfl; exact rfl))
    | (show SQ _ _ _ _ _ _ _ _; (first | (apply q_build0; exact rfl; exact (ty rfl); exact rfl)); (try simp only [put, rowsOf, plR, selE, ovr, setH, del, cellsA, splice, isV, spq, if_true, if_false]))
    | (show AW _ _ _ _ _ _ _ _; first | refine aw_region ?_ | (refine aw_seqk ?_; intro K hK) | refine aw_block ?_)
    | refine thn_n ?_
    | (refine hK _ _ _ ?_; clear hK K))); all_goals (repeat (clear hK K)))
  refine aw_loop (ρ := id) (ι := Nat) (fun i => ([(7, .v (.int .i64 i)), (6, .v (.bool (pst xs x i).2)), (5, .sl 0 0 (pst xs x i).1.length), (1, .v (.int .i64 x)), (0, .dsl 1 (xs.map inL))], [(0, ⟨2, 1, true, (pst xs x i).1.map inL⟩)], 1))
    (fun i => i ≤ xs.length) (fun i => xs.length - i) 0 (Nat.zero_le _) ⟨by (repeat (refine ⟨by first | exact lk_i rfl rfl | exact lk_d rfl rfl | exact lk_v rfl rfl | exact lk_s rfl rfl rfl rfl, ?_⟩)); exact trivial, by (repeat (refine ⟨by first | exact ⟨rfl, rfl, rfl⟩, ?_⟩)); exact trivial, by rfl, by exact pin_0⟩ ?_
  intro i hi
  have hpl := (pst_len xs x i).1
  have hpm : ((pst xs x i).1.map inL).length = (pst xs x i).1.length := List.length_map _
  by_cases c1 : i < xs.length
  · have b1 : decide ((i : Int) < ((xs.map inL).length : Int)) = true := by rw [hml]; simpa using c1
    have hrow : (xs.map inL)[((i : Int)).toNat]? = some [.v (.int .i64 (xs.getD i 0))] := by
      rw [Int.toNat_natCast]; simp [c1, inL]
    have hw : IntKind.i64.wrap ((i : Int) + 1) = ((i + 1 : Nat) : Int) := by rw [IntWalk.i64_in _ (by omega)]; omega
    have hst : pst xs x (i + 1) = if (!(pst xs x i).2 && decide (x ≤ xs.getD i 0)) = true then ((if x < xs.getD i 0 then (pst xs x i).1 ++ [x] else (pst xs x i).1) ++ [xs.getD i 0], true) else ((pst xs x i).1 ++ [xs.getD i 0], (pst xs x i).2) := rfl
    generalize hNe : pst xs x (i + 1) = Ne at *
    generalize pst xs x i = Cu at *
    obtain ⟨o, d⟩ := Cu
    dsimp only at hpl hpm hst ⊢
    generalize xs.getD i 0 = y at *
    cases d with
    | true =>
      have b2 : (!true) = false := rfl
      rw [if_neg (by simp)] at hst
      ((repeat' (first
    | (show SQ _ _ _ _ _ _ _ _; first | apply sq_nil | (apply q_move; exact rfl; exact rfl) | (apply q_assign; exact rfl; exact rfl) | (apply q_pick_f; (iterate 3 exact rfl); exact (by first | assumption | exact rfl)) | (apply q_not; exact rfl; exact rfl) | (apply q_lend; exact rfl; exact rfl; exact (ty rfl); exact rfl) | (apply q_add; iterate 3 exact rfl) | (apply q_lss; iterate 3 exact rfl) | (apply q_ixd; (iterate 3 exact rfl); exact (ty rfl); exact rfl; exact (by first | omega | (simp; done) | (simp; omega)); exact (by first | omega | (simp; done) | (simp; omega)); exact (by first | rfl | assumption)) | (apply q_ld1d; exact rfl; exact rfl; exact (ty rfl); exact rfl; exact rfl) | (apply q_s; (iterate 3 exact rfl); exact (by assumption); exact rfl))
    | (show SQ _ _ _ _ _ _ _ _; (first | (apply q_buildn; exact rfl; exact (ty rfl); iterate 7 exact rfl) | (apply q_apo_s; (iterate 3 exact rfl); exact (ty rfl); exact rfl; exact rfl; exact (by first | omega | (simp; done) | (simp; omega)); exact (by first | exact List.take_of_length_le (by first | omega | (simp; done) | (simp; omega)) | rfl); exact (ty rfl); exact rfl; exact rfl; exact (by first | omega | (simp; done) | (simp; omega)); exact (by first | exact dt_full (by first | omega | (simp; done) | (simp; omega)) | assumption | rfl); exact rfl; exact (by first | omega | (simp; done) | (simp; omega)); exact (by first | omega | (simp; done) | (simp; omega)); exact (by first | assumption | exact rfl))); (try simp only [put, rowsOf, plR, selE, ovr, setH, del, cellsA, splice, isV, spq, if_true, if_false]))
    | (show AW _ _ _ _ _ _ _ _; first | refine aw_region ?_ | (refine aw_seqk ?_; intro K hK) | refine aw_block ?_ | (apply aw_cond_f; exact rfl; exact rfl) | (apply aw_cond_t; exact rfl; exact (by assumption)) | refine aw_skip ?_)
    | refine thn_n ?_
    | (refine hK _ _ _ ?_; clear hK K)
    | refine inb_n ?_)); all_goals (repeat (clear hK K)))
      refine ⟨i + 1, fun j => [2].getD j 0, c1, by omega, ?_⟩
      (try dsimp only); rw [hNe, hst, List.map_append, List.length_append, ← hw]
      exact ⟨by (repeat (refine ⟨by first | exact lk_i rfl rfl | exact lk_d rfl rfl | exact lk_v rfl rfl | exact lk_s rfl rfl rfl rfl, ?_⟩)); exact trivial, by (repeat (refine ⟨by first | exact ⟨rfl, rfl, rfl⟩, ?_⟩)); exact trivial, by rfl, by exact pin_0⟩
    | false =>
      have b2 : (!false) = true := rfl
      by_cases c2 : x ≤ y
      · have b3 : decide (x ≤ y) = true := by simpa using c2
        rw [if_pos (by simpa using c2)] at hst
        by_cases c3 : x < y
        · have b4 : decide (x < y) = true := by simpa using c3
          rw [if_pos c3] at hst
          have hol : (o.map inL ++ [[AV.v (.int .i64 x)]]).length = o.length + 1 := by simp
          ((repeat' (first
    | (show SQ _ _ _ _ _ _ _ _; first | apply sq_nil | (apply q_move; exact rfl; exact rfl) | (apply q_assign; exact rfl; exact rfl) | (apply q_pick_t; (iterate 3 exact rfl); exact (by first | assumption | exact rfl)) | (apply q_not; exact rfl; exact rfl) | (apply q_lend; exact rfl; exact rfl; exact (ty rfl); exact rfl) | (apply q_add; iterate 3 exact rfl) | (apply q_lss; iterate 3 exact rfl) | (apply q_gtr; iterate 3 exact rfl) | (apply q_geq; iterate 3 exact rfl) | (apply q_ixd; (iterate 3 exact rfl); exact (ty rfl); exact rfl; exact (by first | omega | (simp; done) | (simp; omega)); exact (by first | omega | (simp; done) | (simp; omega)); exact (by first | rfl | assumption)) | (apply q_ld1d; exact rfl; exact rfl; exact (ty rfl); exact rfl; exact rfl) | (apply q_g; (iterate 3 exact rfl); exact (by assumption)))
    | (show SQ _ _ _ _ _ _ _ _; (first | (apply q_buildn; exact rfl; exact (ty rfl); iterate 7 exact rfl) | (apply q_apo_s; (iterate 3 exact rfl); exact (ty rfl); exact rfl; exact rfl; exact (by first | omega | (simp; done) | (simp; omega)); exact (by first | exact List.take_of_length_le (by first | omega | (simp; done) | (simp; omega)) | rfl); exact (ty rfl); exact rfl; exact rfl; exact (by first | omega | (simp; done) | (simp; omega)); exact (by first | exact dt_full (by first | omega | (simp; done) | (simp; omega)) | assumption | rfl); exact rfl; exact (by first | omega | (simp; done) | (simp; omega)); exact (by first | omega | (simp; done) | (simp; omega)); exact (by first | assumption | exact rfl))); (try simp only [put, rowsOf, plR, selE, ovr, setH, del, cellsA, splice, isV, spq, if_true, if_false]))
    | (show AW _ _ _ _ _ _ _ _; first | refine aw_region ?_ | (refine aw_seqk ?_; intro K hK) | refine aw_block ?_ | (apply aw_cond_t; exact rfl; exact (by assumption)) | refine aw_skip ?_)
    | refine thn_n ?_
    | (refine hK _ _ _ ?_; clear hK K)
    | refine inb_n ?_)); all_goals (repeat (clear hK K)))
          refine ⟨i + 1, fun j => [4].getD j 0, c1, by omega, ?_⟩
          (try dsimp only); rw [hNe, hst, List.map_append, List.map_append, List.length_append, List.length_append, ← hw]
          exact ⟨by (repeat (refine ⟨by first | exact lk_i rfl rfl | exact lk_d rfl rfl | exact lk_v rfl rfl | exact lk_s rfl rfl rfl rfl, ?_⟩)); exact trivial, by (repeat (refine ⟨by first | exact ⟨rfl, rfl, rfl⟩, ?_⟩)); exact trivial, by rfl, by exact pin_0⟩
        · have b4 : decide (x < y) = false := by simpa using c3
          rw [if_neg c3] at hst
          ((repeat' (first
    | (show SQ _ _ _ _ _ _ _ _; first | apply sq_nil | (apply q_move; exact rfl; exact rfl) | (apply q_assign; exact rfl; exact rfl) | (apply q_pick_t; (iterate 3 exact rfl); exact (by first | assumption | exact rfl)) | (apply q_not; exact rfl; exact rfl) | (apply q_lend; exact rfl; exact rfl; exact (ty rfl); exact rfl) | (apply q_add; iterate 3 exact rfl) | (apply q_lss; iterate 3 exact rfl) | (apply q_gtr; iterate 3 exact rfl) | (apply q_geq; iterate 3 exact rfl) | (apply q_ixd; (iterate 3 exact rfl); exact (ty rfl); exact rfl; exact (by first | omega | (simp; done) | (simp; omega)); exact (by first | omega | (simp; done) | (simp; omega)); exact (by first | rfl | assumption)) | (apply q_ld1d; exact rfl; exact rfl; exact (ty rfl); exact rfl; exact rfl) | (apply q_g; (iterate 3 exact rfl); exact (by assumption)))
    | (show SQ _ _ _ _ _ _ _ _; (first | (apply q_buildn; exact rfl; exact (ty rfl); iterate 7 exact rfl) | (apply q_apo_s; (iterate 3 exact rfl); exact (ty rfl); exact rfl; exact rfl; exact (by first | omega | (simp; done) | (simp; omega)); exact (by first | exact List.take_of_length_le (by first | omega | (simp; done) | (simp; omega)) | rfl); exact (ty rfl); exact rfl; exact rfl; exact (by first | omega | (simp; done) | (simp; omega)); exact (by first | exact dt_full (by first | omega | (simp; done) | (simp; omega)) | assumption | rfl); exact rfl; exact (by first | omega | (simp; done) | (simp; omega)); exact (by first | omega | (simp; done) | (simp; omega)); exact (by first | assumption | exact rfl))); (try simp only [put, rowsOf, plR, selE, ovr, setH, del, cellsA, splice, isV, spq, if_true, if_false]))
    | (show AW _ _ _ _ _ _ _ _; first | refine aw_region ?_ | (refine aw_seqk ?_; intro K hK) | refine aw_block ?_ | (apply aw_cond_t; exact rfl; exact (by assumption)) | (apply aw_cond_f; exact rfl; exact (by assumption)) | refine aw_skip ?_)
    | refine thn_n ?_
    | (refine hK _ _ _ ?_; clear hK K)
    | refine inb_n ?_)); all_goals (repeat (clear hK K)))
          refine ⟨i + 1, fun j => [2].getD j 0, c1, by omega, ?_⟩
          (try dsimp only); rw [hNe, hst, List.map_append, List.length_append, ← hw]
          exact ⟨by (repeat (refine ⟨by first | exact lk_i rfl rfl | exact lk_d rfl rfl | exact lk_v rfl rfl | exact lk_s rfl rfl rfl rfl, ?_⟩)); exact trivial, by (repeat (refine ⟨by first | exact ⟨rfl, rfl, rfl⟩, ?_⟩)); exact trivial, by rfl, by exact pin_0⟩
      · have b3 : decide (x ≤ y) = false := by simpa using c2
        rw [if_neg (by simpa using c2)] at hst
        ((repeat' (first
    | (show SQ _ _ _ _ _ _ _ _; first | apply sq_nil | (apply q_move; exact rfl; exact rfl) | (apply q_assign; exact rfl; exact rfl) | (apply q_pick_t; (iterate 3 exact rfl); exact (by first | assumption | exact rfl)) | (apply q_not; exact rfl; exact rfl) | (apply q_lend; exact rfl; exact rfl; exact (ty rfl); exact rfl) | (apply q_add; iterate 3 exact rfl) | (apply q_lss; iterate 3 exact rfl) | (apply q_geq; iterate 3 exact rfl) | (apply q_ixd; (iterate 3 exact rfl); exact (ty rfl); exact rfl; exact (by first | omega | (simp; done) | (simp; omega)); exact (by first | omega | (simp; done) | (simp; omega)); exact (by first | rfl | assumption)) | (apply q_ld1d; exact rfl; exact rfl; exact (ty rfl); exact rfl; exact rfl) | (apply q_g; (iterate 3 exact rfl); exact (by assumption)))
    | (show SQ _ _ _ _ _ _ _ _; (first | (apply q_buildn; exact rfl; exact (ty rfl); iterate 7 exact rfl) | (apply q_apo_s; (iterate 3 exact rfl); exact (ty rfl); exact rfl; exact rfl; exact (by first | omega | (simp; done) | (simp; omega)); exact (by first | exact List.take_of_length_le (by first | omega | (simp; done) | (simp; omega)) | rfl); exact (ty rfl); exact rfl; exact rfl; exact (by first | omega | (simp; done) | (simp; omega)); exact (by first | exact dt_full (by first | omega | (simp; done) | (simp; omega)) | assumption | rfl); exact rfl; exact (by first | omega | (simp; done) | (simp; omega)); exact (by first | omega | (simp; done) | (simp; omega)); exact (by first | assumption | exact rfl))); (try simp only [put, rowsOf, plR, selE, ovr, setH, del, cellsA, splice, isV, spq, if_true, if_false]))
    | (show AW _ _ _ _ _ _ _ _; first | refine aw_region ?_ | (refine aw_seqk ?_; intro K hK) | refine aw_block ?_ | (apply aw_cond_t; exact rfl; exact (by assumption)) | (apply aw_cond_f; exact rfl; exact (by assumption)) | refine aw_skip ?_)
    | refine thn_n ?_
    | (refine hK _ _ _ ?_; clear hK K)
    | refine inb_n ?_)); all_goals (repeat (clear hK K)))
        refine ⟨i + 1, fun j => [2].getD j 0, c1, by omega, ?_⟩
        (try dsimp only); rw [hNe, hst, List.map_append, List.length_append, ← hw]
        exact ⟨by (repeat (refine ⟨by first | exact lk_i rfl rfl | exact lk_d rfl rfl | exact lk_v rfl rfl | exact lk_s rfl rfl rfl rfl, ?_⟩)); exact trivial, by (repeat (refine ⟨by first | exact ⟨rfl, rfl, rfl⟩, ?_⟩)); exact trivial, by rfl, by exact pin_0⟩
  · have b1 : decide ((i : Int) < ((xs.map inL).length : Int)) = false := by rw [hml]; simpa using c1
    obtain rfl : i = xs.length := by omega
    generalize pst xs x xs.length = Cu at *
    obtain ⟨o, d⟩ := Cu
    dsimp only at hpl hpm hQ ⊢
    cases d with
    | true =>
      have b2 : (!true) = false := rfl
      rw [if_pos rfl] at hQ
      subst hQ
      ((repeat' (first
    | (show SQ _ _ _ _ _ _ _ _; first | apply sq_nil | (apply q_move; exact rfl; exact rfl) | (apply q_assign; exact rfl; exact rfl) | (apply q_not; exact rfl; exact rfl) | (apply q_lend; exact rfl; exact rfl; exact (ty rfl); exact rfl) | (apply q_lss; iterate 3 exact rfl))
    | (show AW _ _ _ _ _ _ _ _; first | refine aw_region ?_ | (refine aw_seqk ?_; intro K hK) | (apply aw_cond_f; exact rfl; exact rfl) | (apply aw_cond_f; exact rfl; exact (by assumption)) | refine aw_ret ?_ | refine aw_exit ?_ | refine aw_skip ?_)
    | refine thn_n ?_
    | (refine hK _ _ _ ?_; clear hK K)
    | refine thn_e ?_
    | refine inb_same ?_
    | (clear hK K; refine hK _ _ _ ?_; clear hK K))); all_goals (repeat (clear hK K)))
      all_goals exact fin_r (fin_m rfl rfl _ _ rfl rfl)
    | false =>
      have b2 : (!false) = true := rfl
      rw [if_neg (by simp)] at hQ
      subst hQ
      ((repeat' (first
    | (show SQ _ _ _ _ _ _ _ _; first | apply sq_nil | (apply q_move; exact rfl; exact rfl) | (apply q_assign; exact rfl; exact rfl) | (apply q_not; exact rfl; exact rfl) | (apply q_lend; exact rfl; exact rfl; exact (ty rfl); exact rfl) | (apply q_lss; iterate 3 exact rfl))
    | (show SQ _ _ _ _ _ _ _ _; (first | (apply q_buildn; exact rfl; exact (ty rfl); iterate 7 exact rfl) | (apply q_apo_s; (iterate 3 exact rfl); exact (ty rfl); exact rfl; exact rfl; exact (by first | omega | (simp; done) | (simp; omega)); exact (by first | exact List.take_of_length_le (by first | omega | (simp; done) | (simp; omega)) | rfl); exact (ty rfl); exact rfl; exact rfl; exact (by first | omega | (simp; done) | (simp; omega)); exact (by first | exact dt_full (by first | omega | (simp; done) | (simp; omega)) | assumption | rfl); exact rfl; exact (by first | omega | (simp; done) | (simp; omega)); exact (by first | omega | (simp; done) | (simp; omega)); exact (by first | assumption | exact rfl))); (try simp only [put, rowsOf, plR, selE, ovr, setH, del, cellsA, splice, isV, spq, if_true, if_false]))
    | (show AW _ _ _ _ _ _ _ _; first | refine aw_region ?_ | (refine aw_seqk ?_; intro K hK) | (apply aw_cond_t; exact rfl; exact rfl) | (apply aw_cond_f; exact rfl; exact (by assumption)) | refine aw_ret ?_ | refine aw_exit ?_)
    | refine thn_n ?_
    | (refine hK _ _ _ ?_; clear hK K)
    | refine thn_e ?_
    | refine inb_same ?_
    | (clear hK K; refine hK _ _ _ ?_; clear hK K))); all_goals (repeat (clear hK K)))
      exact fin_r (fin_m (id := 2) (t := 4) (len := o.length + 1) (rows := o.map inL ++ [[.v (.int .i64 x)]]) rfl rfl _ _ (by simp) (by rw [List.map_append]; rfl))
theorem bo_get {m i : Nat} {ix : List Int} (h : i < m) : ((mb m ix).map boL)[0 + ((i : Int)).toNat]? = some [.v (.bool (ix.any fun y => y == (i : Int)))] := by
  rw [Nat.zero_add, Int.toNat_natCast]; simp [mb, h, boL]
set_option maxHeartbeats 4000000 in
theorem specSpan_bad_ro (n : Int) (ls : List Ln) (hn : ls.length ≤ 1048576) (h : bkB n ls = false) (k : Nat) : RO Try.prog 30 [.agg (bkL n ls)] k (.tup [.v (.slice none 0 0), .v (.int .i64 1)]) [] k := by
  have b1 : (!bkB n ls) = true := by rw [h]; rfl
  refine RO.ofp Try.func30 Try.ntmps30 rfl (goFn_of Try.func30 rfl (by kernel_rfl)) rfl rfl rfl ?_
  unfold bkL
  ((repeat' (first
    | (show SQ _ _ _ _ _ _ _ _; first | apply sq_nil | (apply q_assign; exact rfl; exact rfl) | (apply q_not; exact rfl; exact rfl))
    | (show SQ _ _ _ _ _ _ _ _; (first | (apply q_box; iterate 3 exact rfl) | (apply q_callU; (iterate 3 exact rfl); exact FzL.of rfl; exact l25Ok_ro n ls hn _)); (try simp only [put, rowsOf, plR, selE, ovr, setH, del, cellsA, splice, isV, spq, if_true, if_false]))
    | (show AW _ _ _ _ _ _ _ _; first | refine aw_region ?_ | (refine aw_seqk ?_; intro K hK) | (apply aw_cond_t; exact rfl; exact (by assumption)) | refine aw_ret ?_)
    | refine thn_n ?_
    | (refine hK _ _ _ ?_; clear hK K)
    | refine thn_r ?_)); all_goals (repeat (clear hK K)))
  all_goals refine fin_r (fin_p (.r2 _ _ _ _ (.tmp _ _ rfl) (.tmp _ _ rfl)) ?_ rfl rfl rfl)
  all_goals rfl
theorem specSpan_none (n : Int) (ls : List Ln) (hn : ls.length ≤ 1048576) (h32 : ls.length ≤ 32) (h : bkB n ls = true) (hv : (((treK n ls).length : Int) ≠ n - 1)) (k : Nat) : RO Try.prog 30 [.agg (bkL n ls)] k (.tup [.v (.slice none 0 0), .v (.int .i64 3)]) [] k := by
  have b1 : (!bkB n ls) = false := by rw [h]; rfl
  obtain ⟨hN, hL⟩ := bkB_in h
  have hok := l25Ok_ro n ls hn
  have hPa := fun may hm => l25Parts_ro n ls may hN hn hm hL
  have hli : (ls.map lnL).length = ls.length := List.length_map _
  have hyl := ordK_len ls
  have hyi := fun i hi => ordK_in (ls := ls) (i := i) hi
  have hyn : (ordK ls).Nodup := (ordK_perm ls).nodup_iff.2 ((part0_up _).imp fun {a b} h e => by omega)
  have hord := fun t ht => amn_ord (ls := ls) (t := t) ht
  have hTd : spT n ls (ordK ls) ls.length = treK n ls := rfl
  have hs0 : So.srt [] = [] := by simp [So.srt]
  generalize treK n ls = Tk at *
  generalize ordK ls = ys at *
  refine RO.ofp Try.func30 Try.ntmps30 rfl (goFn_of Try.func30 rfl (by kernel_rfl)) rfl rfl rfl ?_
  unfold bkL at hok hPa ⊢
  ((repeat' (first
    | (show SQ _ _ _ _ _ _ _ _; first | apply sq_nil | (apply q_assign; exact rfl; exact rfl) | (apply q_fieldAddr; exact rfl; exact rfl; exact (ty rfl); iterate 4 exact rfl) | (apply q_not; exact rfl; exact rfl) | (apply q_lend; exact rfl; exact rfl; exact (ty rfl); exact rfl) | (apply q_ld1p; exact rfl; exact rfl; exact (ty rfl); exact rfl; exact rfl; exact (by first | rfl | assumption | ((try simp only [Nat.zero_add]); refine List.getElem?_set_self ?_; (try simp only [List.length_set]); assumption)); exact rfl))
    | (show SQ _ _ _ _ _ _ _ _; (first | (apply q_box; iterate 3 exact rfl) | (apply q_mks; (iterate 3 exact rfl); exact (ty rfl); exact rfl; exact (by first | omega | (simp; done) | (simp; omega)); exact (by first | omega | (simp; done) | (simp; omega)); exact (by first | omega | (simp; done) | (simp; omega)); exact (by first | omega | (simp; done) | (simp; omega)); exact rfl; exact rfl) | (apply q_build0; exact rfl; exact (ty rfl); exact rfl) | (apply q_callU; (iterate 3 exact rfl); exact FzL.of rfl; exact hok _)); (try simp only [put, rowsOf, plR, selE, ovr, setH, del, cellsA, splice, isV, spq, if_true, if_false]))
    | (show AW _ _ _ _ _ _ _ _; first | refine aw_region ?_ | (refine aw_seqk ?_; intro K hK) | refine aw_block ?_ | (apply aw_cond_f; exact rfl; exact (by assumption)) | refine aw_skip ?_)
    | refine thn_n ?_
    | (refine hK _ _ _ ?_; clear hK K))); all_goals (repeat (clear hK K)))
  refine aw_loop (ρ := id) (ι := Nat) (fun t => ([(7, .v (.int .i64 t)), (6, .sl 3 0 (So.srt (spT n ls ys t)).length), (5, .sl 2 0 ls.length), (4, .sl 1 0 ls.length), (1, .ptr 0 0 0)],
      [(0, ⟨31, 2, false, [[.v (.int .i64 n), .dsl 4 (ls.map lnL)]]⟩), (1, ⟨4, 1, true, (mb ls.length (spT n ls ys t)).map boL⟩), (2, ⟨4, 1, true, (mb ls.length (ys.take t)).map boL⟩), (3, ⟨2, 1, true, (So.srt (spT n ls ys t)).map inL⟩)], 4))
    (fun t => t ≤ ls.length) (fun t => ls.length - t) 0 (Nat.zero_le _) ⟨⟨lk_i rfl rfl, lk_s rfl rfl (by (try dsimp only); rw [show spT n ls ys 0 = [] from rfl, hs0]; rfl) rfl, lk_s rfl rfl (by simp) rfl, lk_s rfl rfl (by simp) rfl, lk_r rfl rfl rfl, trivial⟩,
      ⟨⟨rfl, rfl, rfl⟩, lkb rfl rfl rfl (by (try dsimp only); rw [show spT n ls ys 0 = [] from rfl, mb_nil, List.map_replicate, hli]; rfl) rfl, lkb rfl rfl rfl (by (try dsimp only); rw [List.take_zero, mb_nil, List.map_replicate, hli]; rfl) rfl, lkb rfl rfl rfl (by (try dsimp only); rw [show spT n ls ys 0 = [] from rfl, hs0]; rfl) rfl, trivial⟩, by rfl, pin_0⟩ ?_
  intro t ht
  have hsl := spT_len n ls ys t
  have hm1 : ((mb ls.length (spT n ls ys t)).map boL).length = ls.length := by rw [List.length_map, mb_len]
  have hm2 : ((mb ls.length (ys.take t)).map boL).length = ls.length := by rw [List.length_map, mb_len]
  have hm3 : ((So.srt (spT n ls ys t)).map inL).length = (So.srt (spT n ls ys t)).length := List.length_map _
  by_cases c2 : t < ls.length
  · have b2 : decide ((t : Int) < ((ls.map lnL).length : Int)) = true := by rw [hli]; simpa using c2
    ((repeat' (first
    | (show SQ _ _ _ _ _ _ _ _; first | apply sq_nil | (apply q_move; exact rfl; exact rfl) | (apply q_assign; exact rfl; exact rfl) | (apply q_fieldAddr; exact rfl; exact rfl; exact (ty rfl); iterate 4 exact rfl) | (apply q_lend; exact rfl; exact rfl; exact (ty rfl); exact rfl) | (apply q_lss; iterate 3 exact rfl) | (apply q_ld1p; exact rfl; exact rfl; exact (ty rfl); exact rfl; exact rfl; exact (by first | rfl | assumption | ((try simp only [Nat.zero_add]); refine List.getElem?_set_self ?_; (try simp only [List.length_set]); assumption)); exact rfl))
    | (show AW _ _ _ _ _ _ _ _; first | refine aw_region ?_ | (refine aw_seqk ?_; intro K hK) | refine aw_block ?_ | (apply aw_cond_t; exact rfl; exact (by assumption)) | refine aw_skip ?_)
    | refine thn_n ?_
    | (refine hK _ _ _ ?_; clear hK K))); all_goals (repeat (clear hK K)))
    refine aw_loop (ρ := id) (ι := Nat) (fun i => ([(9, .v (.int .i64 i)), (8, .v (.int .i64 (amn ls (ys.take t) i))), (7, .v (.int .i64 t)), (6, .sl 3 0 (So.srt (spT n ls ys t)).length), (5, .sl 2 0 ls.length), (4, .sl 1 0 ls.length), (1, .ptr 0 0 0)],
      [(0, ⟨31, 2, false, [[.v (.int .i64 n), .dsl 4 (ls.map lnL)]]⟩), (1, ⟨4, 1, true, (mb ls.length (spT n ls ys t)).map boL⟩), (2, ⟨4, 1, true, (mb ls.length (ys.take t)).map boL⟩), (3, ⟨2, 1, true, (So.srt (spT n ls ys t)).map inL⟩)], 4))
      (fun i => i ≤ ls.length) (fun i => ls.length - i) 0 (Nat.zero_le _) ⟨by (repeat (refine ⟨by first | exact lk_i rfl rfl | exact lk_r rfl rfl rfl | exact lk_s rfl rfl rfl rfl, ?_⟩)); exact trivial, by (repeat (refine ⟨by first | exact ⟨rfl, rfl, rfl⟩, ?_⟩)); exact trivial, by rfl, by exact pin_0⟩ ?_
    intro i hi
    have hsp := amn_spec ls (ys.take t) i
    by_cases c3 : i < ls.length
    · have b3 : decide ((i : Int) < ((ls.map lnL).length : Int)) = true := by rw [hli]; simpa using c3
      have hbo := bo_get (ix := ys.take t) c3
      have hw : IntKind.i64.wrap ((i : Int) + 1) = ((i + 1 : Nat) : Int) := by rw [IntWalk.i64_in _ (by omega)]; omega
      have hst : amn ls (ys.take t) (i + 1) = if (!((ys.take t).any fun y => y == (i : Int)) && (decide (amn ls (ys.take t) i < 0) || decide (kO ls (i : Int) < kO ls (amn ls (ys.take t) i)))) = true then (i : Int) else amn ls (ys.take t) i := rfl
      have hri : (ls.map lnL)[((i : Int)).toNat]? = some (lnL ls[i]) := by simp [c3]
      have hki : kO ls (i : Int) = ls[i].o := by simp [kO, List.getD, c3]
      rw [hki] at hst
      rw [lnL_eq] at hri
      generalize hNe : amn ls (ys.take t) (i + 1) = Ne at *
      generalize amn ls (ys.take t) i = A at *
      cases hsn : ((ys.take t).any fun y => y == (i : Int)) with
      | true =>
        rw [hsn] at hbo hst
        have b4 : (!true) = false := rfl
        rw [if_neg (by simp)] at hst
        ((repeat' (first
    | (show SQ _ _ _ _ _ _ _ _; first | apply sq_nil | (apply q_move; exact rfl; exact rfl) | (apply q_assign; exact rfl; exact rfl) | (apply q_fieldAddr; exact rfl; exact rfl; exact (ty rfl); iterate 4 exact rfl) | (apply q_lend; exact rfl; exact rfl; exact (ty rfl); exact rfl) | (apply q_add; iterate 3 exact rfl) | (apply q_lss; iterate 3 exact rfl) | (apply q_ld1p; exact rfl; exact rfl; exact (ty rfl); exact rfl; exact rfl; exact (by first | rfl | assumption | ((try simp only [Nat.zero_add]); refine List.getElem?_set_self ?_; (try simp only [List.length_set]); assumption)); exact rfl))
    | (show DE _ _ _ _ _ _ _ _ _ _ _ _; first | (apply e_move; iterate 3 exact rfl) | (apply e_pick_f; (iterate 3 exact rfl); exact (by first | assumption | exact rfl); exact rfl) | (apply e_not; iterate 3 exact rfl) | (apply e_ixl; (iterate 3 exact rfl); exact (ty rfl); (iterate 3 exact rfl); exact (by first | omega | (simp; done) | (simp; omega)); exact (by first | omega | (simp; done) | (simp; omega)); exact rfl) | (apply e_ld1p; exact rfl; exact rfl; exact (ty rfl); exact rfl; exact rfl; exact (by first | rfl | assumption | ((try simp only [Nat.zero_add]); refine List.getElem?_set_self ?_; (try simp only [List.length_set]); assumption)); exact rfl; exact rfl) | (apply e_s; (iterate 3 exact rfl); exact (by assumption); exact rfl) | (apply e_sU; iterate 5 exact rfl))
    | (show DE _ _ _ _ _ _ _ _ _ _ _ _; (first | (apply dr_nil; exact trivial)); (try simp only [put, rowsOf, plR, selE, ovr, setH, del, cellsA, splice, isV, spq, if_true, if_false]))
    | (show AW _ _ _ _ _ _ _ _; first | refine aw_region ?_ | (refine aw_seqk ?_; intro K hK) | refine aw_block ?_ | (apply aw_cond_f; exact rfl; exact rfl) | (apply aw_cond_t; exact rfl; exact (by assumption)) | refine aw_skip ?_ | refine aw_drawE (id := 13) [0, 0, 3, 7, 15, 31, 63, 127, 255, 511, 1023, 511, 4095, 8191, 16383, 511, 33279, 511, 229887, 492031, 1016319, 2097151, 4194303, 8388607] [0, 0, 1, 1, 0, 0, 0, 0, 0, 0, 1, 0, 0, 0, 1, 0, 1, 0, 0, 0, 1, 0, 0, 0] mixed (by kernel_rfl) ?_)
    | refine thn_n ?_
    | (refine hK _ _ _ ?_; clear hK K)
    | refine inb_n ?_)); all_goals (repeat (clear hK K)))
        all_goals (refine ⟨i + 1, id, c3, by omega, ?_⟩; (try dsimp only); rw [hNe, hst, ← hw]; exact ⟨by (repeat (refine ⟨by first | exact lk_i rfl rfl | exact lk_r rfl rfl rfl | exact lk_s rfl rfl rfl rfl, ?_⟩)); exact trivial, by (repeat (refine ⟨by first | exact ⟨rfl, rfl, rfl⟩, ?_⟩)); exact trivial, by rfl, by exact pin_0⟩)
      | false =>
        rw [hsn] at hbo hst
        have b4 : (!false) = true := rfl
        by_cases c4 : A < 0
        · have b5 : decide (A < 0) = true := by simpa using c4
          rw [if_pos (by simp [c4])] at hst
          ((repeat' (first
    | (show SQ _ _ _ _ _ _ _ _; first | apply sq_nil | (apply q_move; exact rfl; exact rfl) | (apply q_assign; exact rfl; exact rfl) | (apply q_fieldAddr; exact rfl; exact rfl; exact (ty rfl); iterate 4 exact rfl) | (apply q_lend; exact rfl; exact rfl; exact (ty rfl); exact rfl) | (apply q_add; iterate 3 exact rfl) | (apply q_lss; iterate 3 exact rfl) | (apply q_ld1p; exact rfl; exact rfl; exact (ty rfl); exact rfl; exact rfl; exact (by first | rfl | assumption | ((try simp only [Nat.zero_add]); refine List.getElem?_set_self ?_; (try simp only [List.length_set]); assumption)); exact rfl))
    | (show DE _ _ _ _ _ _ _ _ _ _ _ _; first | (apply e_move; iterate 3 exact rfl) | (apply e_pick_t; (iterate 3 exact rfl); exact (by first | assumption | exact rfl); exact rfl) | (apply e_not; iterate 3 exact rfl) | (apply e_lss; iterate 4 exact rfl) | (apply e_ixl; (iterate 3 exact rfl); exact (ty rfl); (iterate 3 exact rfl); exact (by first | omega | (simp; done) | (simp; omega)); exact (by first | omega | (simp; done) | (simp; omega)); exact rfl) | (apply e_ld1p; exact rfl; exact rfl; exact (ty rfl); exact rfl; exact rfl; exact (by first | rfl | assumption | ((try simp only [Nat.zero_add]); refine List.getElem?_set_self ?_; (try simp only [List.length_set]); assumption)); exact rfl; exact rfl) | (apply e_g; (iterate 3 exact rfl); exact (by assumption)) | (apply e_s; (iterate 3 exact rfl); exact (by assumption); exact rfl))
    | (show DE _ _ _ _ _ _ _ _ _ _ _ _; (first | (apply dr_nil; exact trivial)); (try simp only [put, rowsOf, plR, selE, ovr, setH, del, cellsA, splice, isV, spq, if_true, if_false]))
    | (show AW _ _ _ _ _ _ _ _; first | refine aw_region ?_ | (refine aw_seqk ?_; intro K hK) | refine aw_block ?_ | (apply aw_cond_t; exact rfl; exact rfl) | (apply aw_cond_t; exact rfl; exact (by assumption)) | refine aw_skip ?_ | refine aw_drawE (id := 13) [0, 0, 3, 7, 15, 31, 63, 127, 255, 511, 1023, 511, 4095, 8191, 16383, 511, 33279, 511, 229887, 492031, 1016319, 2097151, 4194303, 8388607] [0, 0, 1, 1, 0, 0, 0, 0, 0, 0, 1, 0, 0, 0, 1, 0, 1, 0, 0, 0, 1, 0, 0, 0] mixed (by kernel_rfl) ?_)
    | refine thn_n ?_
    | (refine hK _ _ _ ?_; clear hK K)
    | refine inb_n ?_)); all_goals (repeat (clear hK K)))
          all_goals (refine ⟨i + 1, id, c3, by omega, ?_⟩; (try dsimp only); rw [hNe, hst, ← hw]; exact ⟨by (repeat (refine ⟨by first | exact lk_i rfl rfl | exact lk_r rfl rfl rfl | exact lk_s rfl rfl rfl rfl, ?_⟩)); exact trivial, by (repeat (refine ⟨by first | exact ⟨rfl, rfl, rfl⟩, ?_⟩)); exact trivial, by rfl, by exact pin_0⟩)
        · have b5 : decide (A < 0) = false := by simpa using c4
          obtain ⟨a, rfl⟩ : ∃ a : Nat, A = a := ⟨A.toNat, by omega⟩
          have hai : a < ls.length := by rcases hsp with ⟨h1, _⟩ | ⟨_, h2, _⟩ <;> omega
          have hra : (ls.map lnL)[((a : Int)).toNat]? = some (lnL ls[a]) := by simp [hai]
          have hka : kO ls (a : Int) = ls[a].o := by simp [kO, List.getD, hai]
          rw [lnL_eq] at hra
          rw [hka] at hst
          by_cases c5 : ls[i].o < ls[a].o
          · have b6 : decide (ls[i].o < ls[a].o) = true := by simpa using c5
            rw [if_pos (by simp [c5])] at hst
            ((repeat' (first
    | (show SQ _ _ _ _ _ _ _ _; first | apply sq_nil | (apply q_move; exact rfl; exact rfl) | (apply q_assign; exact rfl; exact rfl) | (apply q_fieldAddr; exact rfl; exact rfl; exact (ty rfl); iterate 4 exact rfl) | (apply q_lend; exact rfl; exact rfl; exact (ty rfl); exact rfl) | (apply q_add; iterate 3 exact rfl) | (apply q_lss; iterate 3 exact rfl) | (apply q_ld1p; exact rfl; exact rfl; exact (ty rfl); exact rfl; exact rfl; exact (by first | rfl | assumption | ((try simp only [Nat.zero_add]); refine List.getElem?_set_self ?_; (try simp only [List.length_set]); assumption)); exact rfl))
    | (show DE _ _ _ _ _ _ _ _ _ _ _ _; first | (apply e_move; iterate 3 exact rfl) | (apply e_pick_t; (iterate 3 exact rfl); exact (by first | assumption | exact rfl); exact rfl) | (apply e_pick_f; (iterate 3 exact rfl); exact (by first | assumption | exact rfl); exact rfl) | (apply e_fieldAddr; exact rfl; exact rfl; exact (ty rfl); iterate 5 exact rfl) | (apply e_not; iterate 3 exact rfl) | (apply e_lss; iterate 4 exact rfl) | (apply e_ixd; (iterate 3 exact rfl); exact (ty rfl); exact rfl; exact (by first | omega | (simp; done) | (simp; omega)); exact (by first | omega | (simp; done) | (simp; omega)); exact (by first | rfl | assumption); exact rfl) | (apply e_ixl; (iterate 3 exact rfl); exact (ty rfl); (iterate 3 exact rfl); exact (by first | omega | (simp; done) | (simp; omega)); exact (by first | omega | (simp; done) | (simp; omega)); exact rfl) | (apply e_ld1d; exact rfl; exact rfl; exact (ty rfl); iterate 3 exact rfl) | (apply e_ld1p; exact rfl; exact rfl; exact (ty rfl); exact rfl; exact rfl; exact (by first | rfl | assumption | ((try simp only [Nat.zero_add]); refine List.getElem?_set_self ?_; (try simp only [List.length_set]); assumption)); exact rfl; exact rfl) | (apply e_g; (iterate 3 exact rfl); exact (by assumption)))
    | (show DE _ _ _ _ _ _ _ _ _ _ _ _; (first | (apply dr_nil; exact trivial)); (try simp only [put, rowsOf, plR, selE, ovr, setH, del, cellsA, splice, isV, spq, if_true, if_false]))
    | (show AW _ _ _ _ _ _ _ _; first | refine aw_region ?_ | (refine aw_seqk ?_; intro K hK) | refine aw_block ?_ | (apply aw_cond_t; exact rfl; exact (by assumption)) | refine aw_skip ?_ | refine aw_drawE (id := 13) [0, 0, 3, 7, 15, 31, 63, 127, 255, 511, 1023, 511, 4095, 8191, 16383, 511, 33279, 511, 229887, 492031, 1016319, 2097151, 4194303, 8388607] [0, 0, 1, 1, 0, 0, 0, 0, 0, 0, 1, 0, 0, 0, 1, 0, 1, 0, 0, 0, 1, 0, 0, 0] mixed (by kernel_rfl) ?_)
    | refine thn_n ?_
    | (refine hK _ _ _ ?_; clear hK K)
    | refine inb_n ?_)); all_goals (repeat (clear hK K)))
            all_goals (refine ⟨i + 1, id, c3, by omega, ?_⟩; (try dsimp only); rw [hNe, hst, ← hw]; exact ⟨by (repeat (refine ⟨by first | exact lk_i rfl rfl | exact lk_r rfl rfl rfl | exact lk_s rfl rfl rfl rfl, ?_⟩)); exact trivial, by (repeat (refine ⟨by first | exact ⟨rfl, rfl, rfl⟩, ?_⟩)); exact trivial, by rfl, by exact pin_0⟩)
          · have b6 : decide (ls[i].o < ls[a].o) = false := by simpa using c5
            rw [if_neg (by first | (simp [c5]; done) | (simp [c5]; omega))] at hst
            ((repeat' (first
    | (show SQ _ _ _ _ _ _ _ _; first | apply sq_nil | (apply q_move; exact rfl; exact rfl) | (apply q_assign; exact rfl; exact rfl) | (apply q_fieldAddr; exact rfl; exact rfl; exact (ty rfl); iterate 4 exact rfl) | (apply q_lend; exact rfl; exact rfl; exact (ty rfl); exact rfl) | (apply q_add; iterate 3 exact rfl) | (apply q_lss; iterate 3 exact rfl) | (apply q_ld1p; exact rfl; exact rfl; exact (ty rfl); exact rfl; exact rfl; exact (by first | rfl | assumption | ((try simp only [Nat.zero_add]); refine List.getElem?_set_self ?_; (try simp only [List.length_set]); assumption)); exact rfl))
    | (show DE _ _ _ _ _ _ _ _ _ _ _ _; first | (apply e_move; iterate 3 exact rfl) | (apply e_pick_t; (iterate 3 exact rfl); exact (by first | assumption | exact rfl); exact rfl) | (apply e_pick_f; (iterate 3 exact rfl); exact (by first | assumption | exact rfl); exact rfl) | (apply e_fieldAddr; exact rfl; exact rfl; exact (ty rfl); iterate 5 exact rfl) | (apply e_not; iterate 3 exact rfl) | (apply e_lss; iterate 4 exact rfl) | (apply e_ixd; (iterate 3 exact rfl); exact (ty rfl); exact rfl; exact (by first | omega | (simp; done) | (simp; omega)); exact (by first | omega | (simp; done) | (simp; omega)); exact (by first | rfl | assumption); exact rfl) | (apply e_ixl; (iterate 3 exact rfl); exact (ty rfl); (iterate 3 exact rfl); exact (by first | omega | (simp; done) | (simp; omega)); exact (by first | omega | (simp; done) | (simp; omega)); exact rfl) | (apply e_ld1d; exact rfl; exact rfl; exact (ty rfl); iterate 3 exact rfl) | (apply e_ld1p; exact rfl; exact rfl; exact (ty rfl); exact rfl; exact rfl; exact (by first | rfl | assumption | ((try simp only [Nat.zero_add]); refine List.getElem?_set_self ?_; (try simp only [List.length_set]); assumption)); exact rfl; exact rfl) | (apply e_g; (iterate 3 exact rfl); exact (by assumption)))
    | (show DE _ _ _ _ _ _ _ _ _ _ _ _; (first | (apply dr_nil; exact trivial)); (try simp only [put, rowsOf, plR, selE, ovr, setH, del, cellsA, splice, isV, spq, if_true, if_false]))
    | (show AW _ _ _ _ _ _ _ _; first | refine aw_region ?_ | (refine aw_seqk ?_; intro K hK) | refine aw_block ?_ | (apply aw_cond_t; exact rfl; exact (by assumption)) | (apply aw_cond_f; exact rfl; exact (by assumption)) | refine aw_skip ?_ | refine aw_drawE (id := 13) [0, 0, 3, 7, 15, 31, 63, 127, 255, 511, 1023, 511, 4095, 8191, 16383, 511, 33279, 511, 229887, 492031, 1016319, 2097151, 4194303, 8388607] [0, 0, 1, 1, 0, 0, 0, 0, 0, 0, 1, 0, 0, 0, 1, 0, 1, 0, 0, 0, 1, 0, 0, 0] mixed (by kernel_rfl) ?_)
    | refine thn_n ?_
    | (refine hK _ _ _ ?_; clear hK K)
    | refine inb_n ?_)); all_goals (repeat (clear hK K)))
            all_goals (refine ⟨i + 1, id, c3, by omega, ?_⟩; (try dsimp only); rw [hNe, hst, ← hw]; exact ⟨by (repeat (refine ⟨by first | exact lk_i rfl rfl | exact lk_r rfl rfl rfl | exact lk_s rfl rfl rfl rfl, ?_⟩)); exact trivial, by (repeat (refine ⟨by first | exact ⟨rfl, rfl, rfl⟩, ?_⟩)); exact trivial, by rfl, by exact pin_0⟩)
    · have b3 : decide ((i : Int) < ((ls.map lnL).length : Int)) = false := by rw [hli]; simpa using c3
      obtain rfl : i = ls.length := by omega
      rw [hord t c2]
      have hty : t < ys.length := by omega
      have hyx : ys.getD t 0 = ys[t] := by simp [List.getD, hty]
      obtain ⟨y0, y1⟩ := hyi t hty
      obtain ⟨a, ha⟩ : ∃ a : Nat, ys.getD t 0 = (a : Int) := ⟨(ys.getD t 0).toNat, by omega⟩
      rw [ha]
      have hal : a < ls.length := by omega
      have hra : (ls.map lnL)[((a : Int)).toNat]? = some (lnL ls[a]) := by simp [hal]
      rw [lnL_eq] at hra
      have hlt : lnAt ls (a : Int) = ls[a] := by simp [lnAt, List.getD, hal]
      obtain ⟨a0, a1, d0, d1⟩ := hL ls[a] (List.getElem_mem hal)
      have hbs := bo_get (ix := ys.take t) hal
      have hbm := bo_get (ix := spT n ls ys t) hal
      have hss : ((mb ls.length (ys.take t)).map boL).set ((a : Int)).toNat [.v (.bool true)] = (mb ls.length (ys.take (t + 1))).map boL := by
        rw [show ([AV.v (.bool true)]) = boL true from rfl, ← List.map_set, Int.toNat_natCast, mb_set hal, List.take_succ_eq_append_getElem hty, ← hyx, ha]
      have hsm : ((mb ls.length (spT n ls ys t)).map boL).set ((a : Int)).toNat [.v (.bool true)] = (mb ls.length (spT n ls ys t ++ [(a : Int)])).map boL := by
        rw [show ([AV.v (.bool true)]) = boL true from rfl, ← List.map_set, Int.toNat_natCast, mb_set hal]
      have hss0 := hss
      have hsm0 := hsm
      rw [← Nat.zero_add ((a : Int)).toNat] at hss0 hsm0
      obtain ⟨hnd, hsub⟩ := spT_nodup (n := n) (ls := ls) hyn t (by omega)
      have hmem := spT_mem (n := n) (ls := ls) (ys := ys) (i := t) (by omega)
      have hix : ∀ x ∈ spT n ls ys t, 0 ≤ x ∧ x < ls.length := fun x hx => by
        obtain ⟨j, hj, rfl⟩ := List.getElem_of_mem (hmem x hx); exact hyi j hj
      have hpr := part_reach hL hix ⟨a0, a1⟩ ⟨d0, d1⟩
      have hP := hPa (mb ls.length (spT n ls ys t)) (mb_len _ _)
      have hpl := parts_len n ls (mb ls.length (spT n ls ys t)) ls.length
      have hsu : spT n ls ys (t + 1) = if ((reachV n ls (spT n ls ys t) (lnAt ls (ys.getD t 0)).a).any fun y => y == (lnAt ls (ys.getD t 0)).b) = true then spT n ls ys t else spT n ls ys t ++ [ys.getD t 0] := rfl
      rw [ha, hlt] at hsu
      have hnd2 : (spT n ls ys t ++ [(a : Int)]).Nodup := by
        refine List.nodup_append.2 ⟨hnd, by simp, fun x hx y hy e => ?_⟩
        rw [List.mem_singleton] at hy
        have hm := hsub x hx
        rw [e, hy, ← ha, hyx] at hm
        obtain ⟨j, hj, e2⟩ := List.getElem_of_mem hm
        rw [List.length_take] at hj
        rw [List.getElem_take] at e2
        exact (List.pairwise_iff_getElem.1 hyn j t (by omega) (by omega) (by omega)) e2
      have hpu := put_srt hnd2
      have hPu := l00Put_ro (So.srt (spT n ls ys t)) (a : Int) (by rw [So.srt_len]; omega)
      rw [hpu] at hPu
      have hw : IntKind.i64.wrap ((t : Int) + 1) = ((t + 1 : Nat) : Int) := by rw [IntWalk.i64_in _ (by omega)]; omega
      generalize hNx : spT n ls ys (t + 1) = Nx at *
      generalize spT n ls ys t = ix at *
      generalize parts n ls (mb ls.length ix) ls.length = p at *
      generalize ((reachV n ls ix ls[a].a).any fun y => y == ls[a].b) = rc at *
      have hpm : (p.map inL).length = n.toNat := by rw [List.length_map, hpl]
      have a2 : ls[a].a.toNat < p.length := by omega
      have d2 : ls[a].b.toNat < p.length := by omega
      have hpa : (p.map inL)[0 + ls[a].a.toNat]? = some (inL (p.getD ls[a].a.toNat 0)) := by simp [List.getD, a2]
      have hpb : (p.map inL)[0 + ls[a].b.toNat]? = some (inL (p.getD ls[a].b.toNat 0)) := by simp [List.getD, d2]
      rw [inL_eq] at hpa hpb
      ((repeat' (first
    | (show SQ _ _ _ _ _ _ _ _; first | apply sq_nil | (apply q_move; exact rfl; exact rfl) | (apply q_assign; exact rfl; exact rfl) | (apply q_fieldAddr; exact rfl; exact rfl; exact (ty rfl); iterate 4 exact rfl) | (apply q_lend; exact rfl; exact rfl; exact (ty rfl); exact rfl) | (apply q_add; iterate 3 exact rfl) | (apply q_lss; iterate 3 exact rfl) | (apply q_ixl; (iterate 3 exact rfl); exact (ty rfl); (iterate 3 exact rfl); exact (by first | omega | (simp; done) | (simp; omega)); exact (by first | omega | (simp; done) | (simp; omega))) | (apply q_ld1p; exact rfl; exact rfl; exact (ty rfl); exact rfl; exact rfl; exact (by first | rfl | assumption | ((try simp only [Nat.zero_add]); refine List.getElem?_set_self ?_; (try simp only [List.length_set]); assumption)); exact rfl))
    | (show SQ _ _ _ _ _ _ _ _; (first | (apply q_store; exact rfl; exact rfl; exact (ty rfl); exact rfl; exact (by first | rfl | assumption | ((try simp only [Nat.zero_add]); refine List.getElem?_set_self ?_; (try simp only [List.length_set]); assumption)); iterate 3 exact rfl) | (apply q_callU; (iterate 3 exact rfl); rotate_left; exact hP _; rotate_right; focus ((repeat' (first | exact FzL.nil | exact (by assumption : FzC _) _ | refine FzL.cons ?_ ?_ | exact Fz.of rfl | exact Fz.nil | exact Fz.emp | (apply Fz.fnC; assumption) | (apply Fz.sl2; exact rfl; exact (by first | omega | (simp; done) | (simp; omega)); first | exact rfl | exact dt_full (by first | omega | (simp; done) | (simp; omega)) | assumption) | apply Fz.agg | (apply Fz.ptrL; exact rfl; first | exact rfl | assumption) | apply Fz.fnL)); done)) | (apply q_callU; (iterate 3 exact rfl); rotate_left; exact hPu _; rotate_right; focus ((repeat' (first | exact FzL.nil | exact (by assumption : FzC _) _ | refine FzL.cons ?_ ?_ | exact Fz.of rfl | exact Fz.nil | exact Fz.emp | (apply Fz.fnC; assumption) | (apply Fz.sl2; exact rfl; exact (by first | omega | (simp; done) | (simp; omega)); first | exact rfl | exact dt_full (by first | omega | (simp; done) | (simp; omega)) | assumption) | apply Fz.agg | (apply Fz.ptrL; exact rfl; first | exact rfl | assumption) | apply Fz.fnL)); done))); (try simp only [put, rowsOf, plR, selE, ovr, setH, del, cellsA, splice, isV, spq, if_true, if_false]))
    | (show DE _ _ _ _ _ _ _ _ _ _ _ _; first | (apply e_move; iterate 3 exact rfl) | (apply e_fieldAddr; exact rfl; exact rfl; exact (ty rfl); iterate 5 exact rfl) | (apply e_neq; iterate 4 exact rfl) | (apply e_ixd; (iterate 3 exact rfl); exact (ty rfl); exact rfl; exact (by first | omega | (simp; done) | (simp; omega)); exact (by first | omega | (simp; done) | (simp; omega)); exact (by first | rfl | assumption); exact rfl) | (apply e_ixl; (iterate 3 exact rfl); exact (ty rfl); (iterate 3 exact rfl); exact (by first | omega | (simp; done) | (simp; omega)); exact (by first | omega | (simp; done) | (simp; omega)); exact rfl) | (apply e_ld1d; exact rfl; exact rfl; exact (ty rfl); iterate 3 exact rfl) | (apply e_ld1p; exact rfl; exact rfl; exact (ty rfl); exact rfl; exact rfl; exact (by first | rfl | assumption | ((try simp only [Nat.zero_add]); refine List.getElem?_set_self ?_; (try simp only [List.length_set]); assumption)); exact rfl; exact rfl))
    | (show DE _ _ _ _ _ _ _ _ _ _ _ _; (first | (apply dr_nil; exact trivial)); (try simp only [put, rowsOf, plR, selE, ovr, setH, del, cellsA, splice, isV, spq, if_true, if_false]))
    | (show AW _ _ _ _ _ _ _ _; first | refine aw_region ?_ | (refine aw_seqk ?_; intro K hK) | (apply aw_cond_f; exact rfl; exact (by assumption)) | refine aw_exit ?_ | refine aw_skip ?_ | refine aw_drawE (id := 17) [0, 0, 2, 0, 14, 30, 62, 127, 255, 0, 0, 1024, 0, 7168, 15360, 31744, 65024, 130560, 262143] [0, 0, 1, 0, 0, 0, 1, 1, 1, 0, 0, 1, 0, 0, 0, 1, 1, 1, 0] mixed (by kernel_rfl) ?_ | (apply aw_ite; exact rfl; all_goals intro h))
    | refine thn_n ?_
    | (refine hK _ _ _ ?_; clear hK K)
    | refine thn_e ?_
    | refine inb_same ?_
    | refine inb_n ?_
    | (simp only [hss, hss0, hsm, hsm0])
    | (clear hK K; refine hK _ _ _ ?_; clear hK K))); all_goals (repeat (clear hK K)))
      · have hb : rc = false := by have h := hpr.symm.trans ‹_›; rwa [Bool.not_eq_true'] at h
        rw [if_neg (by rw [hb]; simp)] at hsu
        refine ⟨t + 1, fun j => [0, 1, 2, 5].getD j 0, c2, by omega, ?_⟩
        (try dsimp only); rw [hNx, hsu, ← hw]
        exact ⟨by (repeat (refine ⟨by first | exact lk_i rfl rfl | exact lk_r rfl rfl rfl | exact lk_s rfl rfl rfl rfl, ?_⟩)); exact trivial, by (repeat (refine ⟨by first | exact ⟨rfl, rfl, rfl⟩, ?_⟩)); exact trivial, by rfl, by exact pin_0⟩
      · have hb : rc = true := by have h := hpr.symm.trans ‹_›; rwa [Bool.not_eq_false'] at h
        rw [if_pos hb] at hsu
        refine ⟨t + 1, id, c2, by omega, ?_⟩
        (try dsimp only); rw [hNx, hsu, ← hw]
        exact ⟨by (repeat (refine ⟨by first | exact lk_i rfl rfl | exact lk_r rfl rfl rfl | exact lk_s rfl rfl rfl rfl, ?_⟩)); exact trivial, by (repeat (refine ⟨by first | exact ⟨rfl, rfl, rfl⟩, ?_⟩)); exact trivial, by rfl, by exact pin_0⟩
  have b2 : decide ((t : Int) < ((ls.map lnL).length : Int)) = false := by rw [hli]; simpa using c2
  obtain rfl : t = ls.length := by omega
  rw [hTd] at hsl hm1 hm3 ⊢
  have hw4 : IntKind.i64.wrap (n - 1) = n - 1 := IntWalk.i64_in _ (by omega)
  have b3 : (((So.srt Tk).length : Int) != IntKind.i64.wrap (n - 1)) = true := by rw [hw4, So.srt_len]; simpa using hv
  ((repeat' (first
    | (show SQ _ _ _ _ _ _ _ _; first | apply sq_nil | (apply q_move; exact rfl; exact rfl) | (apply q_assign; exact rfl; exact rfl) | (apply q_fieldAddr; exact rfl; exact rfl; exact (ty rfl); iterate 4 exact rfl) | (apply q_lend; exact rfl; exact rfl; exact (ty rfl); exact rfl) | (apply q_lenl; exact rfl; exact rfl; exact (ty rfl); exact rfl) | (apply q_sub; iterate 3 exact rfl) | (apply q_neq; iterate 3 exact rfl) | (apply q_lss; iterate 3 exact rfl) | (apply q_ld1p; exact rfl; exact rfl; exact (ty rfl); exact rfl; exact rfl; exact (by first | rfl | assumption | ((try simp only [Nat.zero_add]); refine List.getElem?_set_self ?_; (try simp only [List.length_set]); assumption)); exact rfl))
    | (show AW _ _ _ _ _ _ _ _; first | refine aw_region ?_ | (refine aw_seqk ?_; intro K hK) | (apply aw_cond_t; exact rfl; exact (by assumption)) | (apply aw_cond_f; exact rfl; exact (by assumption)) | refine aw_ret ?_ | refine aw_exit ?_)
    | refine thn_n ?_
    | (refine hK _ _ _ ?_; clear hK K)
    | refine thn_e ?_
    | refine thn_r ?_
    | refine inb_same ?_
    | (clear hK K; refine hK _ _ _ ?_; clear hK K))); all_goals (repeat (clear hK K)))
  all_goals ((refine fin_r (fin_p (.r2 _ _ _ _ (.tmp _ _ rfl) (.tmp _ _ rfl)) ?_ rfl rfl rfl); rfl))
theorem specSpan_okR (n : Int) (ls : List Ln) (hn : ls.length ≤ 1048576) (h32 : ls.length ≤ 32) (h : bkB n ls = true) (hv : (((treK n ls).length : Int) = n - 1)) (k : Nat) : RO Try.prog 30 [.agg (bkL n ls)] k (.tup [.sl k 0 (treK n ls).length, .v (.int .i64 0)]) [(k, ⟨2, 1, true, (So.srt (treK n ls)).map inL⟩)] (k + 1) := by
  have b1 : (!bkB n ls) = false := by rw [h]; rfl
  obtain ⟨hN, hL⟩ := bkB_in h
  have hok := l25Ok_ro n ls hn
  have hPa := fun may hm => l25Parts_ro n ls may hN hn hm hL
  have hli : (ls.map lnL).length = ls.length := List.length_map _
  have hyl := ordK_len ls
  have hyi := fun i hi => ordK_in (ls := ls) (i := i) hi
  have hyn : (ordK ls).Nodup := (ordK_perm ls).nodup_iff.2 ((part0_up _).imp fun {a b} h e => by omega)
  have hord := fun t ht => amn_ord (ls := ls) (t := t) ht
  have hTd : spT n ls (ordK ls) ls.length = treK n ls := rfl
  have hs0 : So.srt [] = [] := by simp [So.srt]
  generalize treK n ls = Tk at *
  generalize ordK ls = ys at *
  refine RO.ofm (.tup [.sl 0 0 Tk.length, .v (.int .i64 0)]) ([(0, ⟨2, 1, true, (So.srt Tk).map inL⟩)]) 1 Try.func30 Try.ntmps30 rfl (goFn_of Try.func30 rfl (by kernel_rfl)) rfl rfl (by simp [renA, renL]) (by simp [shH, renB]) rfl ?_
  unfold bkL at hok hPa ⊢
  ((repeat' (first
    | (show SQ _ _ _ _ _ _ _ _; first | apply sq_nil | (apply q_assign; exact rfl; exact rfl) | (apply q_fieldAddr; exact rfl; exact rfl; exact (ty rfl); iterate 4 exact rfl) | (apply q_not; exact rfl; exact rfl) | (apply q_lend; exact rfl; exact rfl; exact (ty rfl); exact rfl) | (apply q_ld1p; exact rfl; exact rfl; exact (ty rfl); exact rfl; exact rfl; exact (by first | rfl | assumption | ((try simp only [Nat.zero_add]); refine List.getElem?_set_self ?_; (try simp only [List.length_set]); assumption)); exact rfl))
    | (show SQ _ _ _ _ _ _ _ _; (first | (apply q_box; iterate 3 exact rfl) | (apply q_mks; (iterate 3 exact rfl); exact (ty rfl); exact rfl; exact (by first | omega | (simp; done) | (simp; omega)); exact (by first | omega | (simp; done) | (simp; omega)); exact (by first | omega | (simp; done) | (simp; omega)); exact (by first | omega | (simp; done) | (simp; omega)); exact rfl; exact rfl) | (apply q_build0; exact rfl; exact (ty rfl); exact rfl) | (apply q_callU; (iterate 3 exact rfl); exact FzL.of rfl; exact hok _)); (try simp only [put, rowsOf, plR, selE, ovr, setH, del, cellsA, splice, isV, spq, if_true, if_false]))
    | (show AW _ _ _ _ _ _ _ _; first | refine aw_region ?_ | (refine aw_seqk ?_; intro K hK) | refine aw_block ?_ | (apply aw_cond_f; exact rfl; exact (by assumption)) | refine aw_skip ?_)
    | refine thn_n ?_
    | (refine hK _ _ _ ?_; clear hK K))); all_goals (repeat (clear hK K)))
  refine aw_loop (ρ := id) (ι := Nat) (fun t => ([(7, .v (.int .i64 t)), (6, .sl 3 0 (So.srt (spT n ls ys t)).length), (5, .sl 2 0 ls.length), (4, .sl 1 0 ls.length), (1, .ptr 0 0 0)],
      [(0, ⟨31, 2, false, [[.v (.int .i64 n), .dsl 4 (ls.map lnL)]]⟩), (1, ⟨4, 1, true, (mb ls.length (spT n ls ys t)).map boL⟩), (2, ⟨4, 1, true, (mb ls.length (ys.take t)).map boL⟩), (3, ⟨2, 1, true, (So.srt (spT n ls ys t)).map inL⟩)], 4))
    (fun t => t ≤ ls.length) (fun t => ls.length - t) 0 (Nat.zero_le _) ⟨⟨lk_i rfl rfl, lk_s rfl rfl (by (try dsimp only); rw [show spT n ls ys 0 = [] from rfl, hs0]; rfl) rfl, lk_s rfl rfl (by simp) rfl, lk_s rfl rfl (by simp) rfl, lk_r rfl rfl rfl, trivial⟩,
      ⟨⟨rfl, rfl, rfl⟩, lkb rfl rfl rfl (by (try dsimp only); rw [show spT n ls ys 0 = [] from rfl, mb_nil, List.map_replicate, hli]; rfl) rfl, lkb rfl rfl rfl (by (try dsimp only); rw [List.take_zero, mb_nil, List.map_replicate, hli]; rfl) rfl, lkb rfl rfl rfl (by (try dsimp only); rw [show spT n ls ys 0 = [] from rfl, hs0]; rfl) rfl, trivial⟩, by rfl, pin_0⟩ ?_
  intro t ht
  have hsl := spT_len n ls ys t
  have hm1 : ((mb ls.length (spT n ls ys t)).map boL).length = ls.length := by rw [List.length_map, mb_len]
  have hm2 : ((mb ls.length (ys.take t)).map boL).length = ls.length := by rw [List.length_map, mb_len]
  have hm3 : ((So.srt (spT n ls ys t)).map inL).length = (So.srt (spT n ls ys t)).length := List.length_map _
  by_cases c2 : t < ls.length
  · have b2 : decide ((t : Int) < ((ls.map lnL).length : Int)) = true := by rw [hli]; simpa using c2
    ((repeat' (first
    | (show SQ _ _ _ _ _ _ _ _; first | apply sq_nil | (apply q_move; exact rfl; exact rfl) | (apply q_assign; exact rfl; exact rfl) | (apply q_fieldAddr; exact rfl; exact rfl; exact (ty rfl); iterate 4 exact rfl) | (apply q_lend; exact rfl; exact rfl; exact (ty rfl); exact rfl) | (apply q_lss; iterate 3 exact rfl) | (apply q_ld1p; exact rfl; exact rfl; exact (ty rfl); exact rfl; exact rfl; exact (by first | rfl | assumption | ((try simp only [Nat.zero_add]); refine List.getElem?_set_self ?_; (try simp only [List.length_set]); assumption)); exact rfl))
    | (show AW _ _ _ _ _ _ _ _; first | refine aw_region ?_ | (refine aw_seqk ?_; intro K hK) | refine aw_block ?_ | (apply aw_cond_t; exact rfl; exact (by assumption)) | refine aw_skip ?_)
    | refine thn_n ?_
    | (refine hK _ _ _ ?_; clear hK K))); all_goals (repeat (clear hK K)))
    refine aw_loop (ρ := id) (ι := Nat) (fun i => ([(9, .v (.int .i64 i)), (8, .v (.int .i64 (amn ls (ys.take t) i))), (7, .v (.int .i64 t)), (6, .sl 3 0 (So.srt (spT n ls ys t)).length), (5, .sl 2 0 ls.length), (4, .sl 1 0 ls.length), (1, .ptr 0 0 0)],
      [(0, ⟨31, 2, false, [[.v (.int .i64 n), .dsl 4 (ls.map lnL)]]⟩), (1, ⟨4, 1, true, (mb ls.length (spT n ls ys t)).map boL⟩), (2, ⟨4, 1, true, (mb ls.length (ys.take t)).map boL⟩), (3, ⟨2, 1, true, (So.srt (spT n ls ys t)).map inL⟩)], 4))
      (fun i => i ≤ ls.length) (fun i => ls.length - i) 0 (Nat.zero_le _) ⟨by (repeat (refine ⟨by first | exact lk_i rfl rfl | exact lk_r rfl rfl rfl | exact lk_s rfl rfl rfl rfl, ?_⟩)); exact trivial, by (repeat (refine ⟨by first | exact ⟨rfl, rfl, rfl⟩, ?_⟩)); exact trivial, by rfl, by exact pin_0⟩ ?_
    intro i hi
    have hsp := amn_spec ls (ys.take t) i
    by_cases c3 : i < ls.length
    · have b3 : decide ((i : Int) < ((ls.map lnL).length : Int)) = true := by rw [hli]; simpa using c3
      have hbo := bo_get (ix := ys.take t) c3
      have hw : IntKind.i64.wrap ((i : Int) + 1) = ((i + 1 : Nat) : Int) := by rw [IntWalk.i64_in _ (by omega)]; omega
      have hst : amn ls (ys.take t) (i + 1) = if (!((ys.take t).any fun y => y == (i : Int)) && (decide (amn ls (ys.take t) i < 0) || decide (kO ls (i : Int) < kO ls (amn ls (ys.take t) i)))) = true then (i : Int) else amn ls (ys.take t) i := rfl
      have hri : (ls.map lnL)[((i : Int)).toNat]? = some (lnL ls[i]) := by simp [c3]
      have hki : kO ls (i : Int) = ls[i].o := by simp [kO, List.getD, c3]
      rw [hki] at hst
      rw [lnL_eq] at hri
      generalize hNe : amn ls (ys.take t) (i + 1) = Ne at *
      generalize amn ls (ys.take t) i = A at *
      cases hsn : ((ys.take t).any fun y => y == (i : Int)) with
      | true =>
        rw [hsn] at hbo hst
        have b4 : (!true) = false := rfl
        rw [if_neg (by simp)] at hst
        ((repeat' (first
    | (show SQ _ _ _ _ _ _ _ _; first | apply sq_nil | (apply q_move; exact rfl; exact rfl) | (apply q_assign; exact rfl; exact rfl) | (apply q_fieldAddr; exact rfl; exact rfl; exact (ty rfl); iterate 4 exact rfl) | (apply q_lend; exact rfl; exact rfl; exact (ty rfl); exact rfl) | (apply q_add; iterate 3 exact rfl) | (apply q_lss; iterate 3 exact rfl) | (apply q_ld1p; exact rfl; exact rfl; exact (ty rfl); exact rfl; exact rfl; exact (by first | rfl | assumption | ((try simp only [Nat.zero_add]); refine List.getElem?_set_self ?_; (try simp only [List.length_set]); assumption)); exact rfl))
    | (show DE _ _ _ _ _ _ _ _ _ _ _ _; first | (apply e_move; iterate 3 exact rfl) | (apply e_pick_f; (iterate 3 exact rfl); exact (by first | assumption | exact rfl); exact rfl) | (apply e_not; iterate 3 exact rfl) | (apply e_ixl; (iterate 3 exact rfl); exact (ty rfl); (iterate 3 exact rfl); exact (by first | omega | (simp; done) | (simp; omega)); exact (by first | omega | (simp; done) | (simp; omega)); exact rfl) | (apply e_ld1p; exact rfl; exact rfl; exact (ty rfl); exact rfl; exact rfl; exact (by first | rfl | assumption | ((try simp only [Nat.zero_add]); refine List.getElem?_set_self ?_; (try simp only [List.length_set]); assumption)); exact rfl; exact rfl) | (apply e_s; (iterate 3 exact rfl); exact (by assumption); exact rfl) | (apply e_sU; iterate 5 exact rfl))
    | (show DE _ _ _ _ _ _ _ _ _ _ _ _; (first | (apply dr_nil; exact trivial)); (try simp only [put, rowsOf, plR, selE, ovr, setH, del, cellsA, splice, isV, spq, if_true, if_false]))
    | (show AW _ _ _ _ _ _ _ _; first | refine aw_region ?_ | (refine aw_seqk ?_; intro K hK) | refine aw_block ?_ | (apply aw_cond_f; exact rfl; exact rfl) | (apply aw_cond_t; exact rfl; exact (by assumption)) | refine aw_skip ?_ | refine aw_drawE (id := 13) [0, 0, 3, 7, 15, 31, 63, 127, 255, 511, 1023, 511, 4095, 8191, 16383, 511, 33279, 511, 229887, 492031, 1016319, 2097151, 4194303, 8388607] [0, 0, 1, 1, 0, 0, 0, 0, 0, 0, 1, 0, 0, 0, 1, 0, 1, 0, 0, 0, 1, 0, 0, 0] mixed (by kernel_rfl) ?_)
    | refine thn_n ?_
    | (refine hK _ _ _ ?_; clear hK K)
    | refine inb_n ?_)); all_goals (repeat (clear hK K)))
        all_goals (refine ⟨i + 1, id, c3, by omega, ?_⟩; (try dsimp only); rw [hNe, hst, ← hw]; exact ⟨by (repeat (refine ⟨by first | exact lk_i rfl rfl | exact lk_r rfl rfl rfl | exact lk_s rfl rfl rfl rfl, ?_⟩)); exact trivial, by (repeat (refine ⟨by first | exact ⟨rfl, rfl, rfl⟩, ?_⟩)); exact trivial, by rfl, by exact pin_0⟩)
      | false =>
        rw [hsn] at hbo hst
        have b4 : (!false) = true := rfl
        by_cases c4 : A < 0
        · have b5 : decide (A < 0) = true := by simpa using c4
          rw [if_pos (by simp [c4])] at hst
          ((repeat' (first
    | (show SQ _ _ _ _ _ _ _ _; first | apply sq_nil | (apply q_move; exact rfl; exact rfl) | (apply q_assign; exact rfl; exact rfl) | (apply q_fieldAddr; exact rfl; exact rfl; exact (ty rfl); iterate 4 exact rfl) | (apply q_lend; exact rfl; exact rfl; exact (ty rfl); exact rfl) | (apply q_add; iterate 3 exact rfl) | (apply q_lss; iterate 3 exact rfl) | (apply q_ld1p; exact rfl; exact rfl; exact (ty rfl); exact rfl; exact rfl; exact (by first | rfl | assumption | ((try simp only [Nat.zero_add]); refine List.getElem?_set_self ?_; (try simp only [List.length_set]); assumption)); exact rfl))
    | (show DE _ _ _ _ _ _ _ _ _ _ _ _; first | (apply e_move; iterate 3 exact rfl) | (apply e_pick_t; (iterate 3 exact rfl); exact (by first | assumption | exact rfl); exact rfl) | (apply e_not; iterate 3 exact rfl) | (apply e_lss; iterate 4 exact rfl) | (apply e_ixl; (iterate 3 exact rfl); exact (ty rfl); (iterate 3 exact rfl); exact (by first | omega | (simp; done) | (simp; omega)); exact (by first | omega | (simp; done) | (simp; omega)); exact rfl) | (apply e_ld1p; exact rfl; exact rfl; exact (ty rfl); exact rfl; exact rfl; exact (by first | rfl | assumption | ((try simp only [Nat.zero_add]); refine List.getElem?_set_self ?_; (try simp only [List.length_set]); assumption)); exact rfl; exact rfl) | (apply e_g; (iterate 3 exact rfl); exact (by assumption)) | (apply e_s; (iterate 3 exact rfl); exact (by assumption); exact rfl))
    | (show DE _ _ _ _ _ _ _ _ _ _ _ _; (first | (apply dr_nil; exact trivial)); (try simp only [put, rowsOf, plR, selE, ovr, setH, del, cellsA, splice, isV, spq, if_true, if_false]))
    | (show AW _ _ _ _ _ _ _ _; first | refine aw_region ?_ | (refine aw_seqk ?_; intro K hK) | refine aw_block ?_ | (apply aw_cond_t; exact rfl; exact rfl) | (apply aw_cond_t; exact rfl; exact (by assumption)) | refine aw_skip ?_ | refine aw_drawE (id := 13) [0, 0, 3, 7, 15, 31, 63, 127, 255, 511, 1023, 511, 4095, 8191, 16383, 511, 33279, 511, 229887, 492031, 1016319, 2097151, 4194303, 8388607] [0, 0, 1, 1, 0, 0, 0, 0, 0, 0, 1, 0, 0, 0, 1, 0, 1, 0, 0, 0, 1, 0, 0, 0] mixed (by kernel_rfl) ?_)
    | refine thn_n ?_
    | (refine hK _ _ _ ?_; clear hK K)
    | refine inb_n ?_)); all_goals (repeat (clear hK K)))
          all_goals (refine ⟨i + 1, id, c3, by omega, ?_⟩; (try dsimp only); rw [hNe, hst, ← hw]; exact ⟨by (repeat (refine ⟨by first | exact lk_i rfl rfl | exact lk_r rfl rfl rfl | exact lk_s rfl rfl rfl rfl, ?_⟩)); exact trivial, by (repeat (refine ⟨by first | exact ⟨rfl, rfl, rfl⟩, ?_⟩)); exact trivial, by rfl, by exact pin_0⟩)
        · have b5 : decide (A < 0) = false := by simpa using c4
          obtain ⟨a, rfl⟩ : ∃ a : Nat, A = a := ⟨A.toNat, by omega⟩
          have hai : a < ls.length := by rcases hsp with ⟨h1, _⟩ | ⟨_, h2, _⟩ <;> omega
          have hra : (ls.map lnL)[((a : Int)).toNat]? = some (lnL ls[a]) := by simp [hai]
          have hka : kO ls (a : Int) = ls[a].o := by simp [kO, List.getD, hai]
          rw [lnL_eq] at hra
          rw [hka] at hst
          by_cases c5 : ls[i].o < ls[a].o
          · have b6 : decide (ls[i].o < ls[a].o) = true := by simpa using c5
            rw [if_pos (by simp [c5])] at hst
            ((repeat' (first
    | (show SQ _ _ _ _ _ _ _ _; first | apply sq_nil | (apply q_move; exact rfl; exact rfl) | (apply q_assign; exact rfl; exact rfl) | (apply q_fieldAddr; exact rfl; exact rfl; exact (ty rfl); iterate 4 exact rfl) | (apply q_lend; exact rfl; exact rfl; exact (ty rfl); exact rfl) | (apply q_add; iterate 3 exact rfl) | (apply q_lss; iterate 3 exact rfl) | (apply q_ld1p; exact rfl; exact rfl; exact (ty rfl); exact rfl; exact rfl; exact (by first | rfl | assumption | ((try simp only [Nat.zero_add]); refine List.getElem?_set_self ?_; (try simp only [List.length_set]); assumption)); exact rfl))
    | (show DE _ _ _ _ _ _ _ _ _ _ _ _; first | (apply e_move; iterate 3 exact rfl) | (apply e_pick_t; (iterate 3 exact rfl); exact (by first | assumption | exact rfl); exact rfl) | (apply e_pick_f; (iterate 3 exact rfl); exact (by first | assumption | exact rfl); exact rfl) | (apply e_fieldAddr; exact rfl; exact rfl; exact (ty rfl); iterate 5 exact rfl) | (apply e_not; iterate 3 exact rfl) | (apply e_lss; iterate 4 exact rfl) | (apply e_ixd; (iterate 3 exact rfl); exact (ty rfl); exact rfl; exact (by first | omega | (simp; done) | (simp; omega)); exact (by first | omega | (simp; done) | (simp; omega)); exact (by first | rfl | assumption); exact rfl) | (apply e_ixl; (iterate 3 exact rfl); exact (ty rfl); (iterate 3 exact rfl); exact (by first | omega | (simp; done) | (simp; omega)); exact (by first | omega | (simp; done) | (simp; omega)); exact rfl) | (apply e_ld1d; exact rfl; exact rfl; exact (ty rfl); iterate 3 exact rfl) | (apply e_ld1p; exact rfl; exact rfl; exact (ty rfl); exact rfl; exact rfl; exact (by first | rfl | assumption | ((try simp only [Nat.zero_add]); refine List.getElem?_set_self ?_; (try simp only [List.length_set]); assumption)); exact rfl; exact rfl) | (apply e_g; (iterate 3 exact rfl); exact (by assumption)))
    | (show DE _ _ _ _ _ _ _ _ _ _ _ _; (first | (apply dr_nil; exact trivial)); (try simp only [put, rowsOf, plR, selE, ovr, setH, del, cellsA, splice, isV, spq, if_true, if_false]))
    | (show AW _ _ _ _ _ _ _ _; first | refine aw_region ?_ | (refine aw_seqk ?_; intro K hK) | refine aw_block ?_ | (apply aw_cond_t; exact rfl; exact (by assumption)) | refine aw_skip ?_ | refine aw_drawE (id := 13) [0, 0, 3, 7, 15, 31, 63, 127, 255, 511, 1023, 511, 4095, 8191, 16383, 511, 33279, 511, 229887, 492031, 1016319, 2097151, 4194303, 8388607] [0, 0, 1, 1, 0, 0, 0, 0, 0, 0, 1, 0, 0, 0, 1, 0, 1, 0, 0, 0, 1, 0, 0, 0] mixed (by kernel_rfl) ?_)
    | refine thn_n ?_
    | (refine hK _ _ _ ?_; clear hK K)
    | refine inb_n ?_)); all_goals (repeat (clear hK K)))
            all_goals (refine ⟨i + 1, id, c3, by omega, ?_⟩; (try dsimp only); rw [hNe, hst, ← hw]; exact ⟨by (repeat (refine ⟨by first | exact lk_i rfl rfl | exact lk_r rfl rfl rfl | exact lk_s rfl rfl rfl rfl, ?_⟩)); exact trivial, by (repeat (refine ⟨by first | exact ⟨rfl, rfl, rfl⟩, ?_⟩)); exact trivial, by rfl, by exact pin_0⟩)
          · have b6 : decide (ls[i].o < ls[a].o) = false := by simpa using c5
            rw [if_neg (by first | (simp [c5]; done) | (simp [c5]; omega))] at hst
            ((repeat' (first
    | (show SQ _ _ _ _ _ _ _ _; first | apply sq_nil | (apply q_move; exact rfl; exact rfl) | (apply q_assign; exact rfl; exact rfl) | (apply q_fieldAddr; exact rfl; exact rfl; exact (ty rfl); iterate 4 exact rfl) | (apply q_lend; exact rfl; exact rfl; exact (ty rfl); exact rfl) | (apply q_add; iterate 3 exact rfl) | (apply q_lss; iterate 3 exact rfl) | (apply q_ld1p; exact rfl; exact rfl; exact (ty rfl); exact rfl; exact rfl; exact (by first | rfl | assumption | ((try simp only [Nat.zero_add]); refine List.getElem?_set_self ?_; (try simp only [List.length_set]); assumption)); exact rfl))
    | (show DE _ _ _ _ _ _ _ _ _ _ _ _; first | (apply e_move; iterate 3 exact rfl) | (apply e_pick_t; (iterate 3 exact rfl); exact (by first | assumption | exact rfl); exact rfl) | (apply e_pick_f; (iterate 3 exact rfl); exact (by first | assumption | exact rfl); exact rfl) | (apply e_fieldAddr; exact rfl; exact rfl; exact (ty rfl); iterate 5 exact rfl) | (apply e_not; iterate 3 exact rfl) | (apply e_lss; iterate 4 exact rfl) | (apply e_ixd; (iterate 3 exact rfl); exact (ty rfl); exact rfl; exact (by first | omega | (simp; done) | (simp; omega)); exact (by first | omega | (simp; done) | (simp; omega)); exact (by first | rfl | assumption); exact rfl) | (apply e_ixl; (iterate 3 exact rfl); exact (ty rfl); (iterate 3 exact rfl); exact (by first | omega | (simp; done) | (simp; omega)); exact (by first | omega | (simp; done) | (simp; omega)); exact rfl) | (apply e_ld1d; exact rfl; exact rfl; exact (ty rfl); iterate 3 exact rfl) | (apply e_ld1p; exact rfl; exact rfl; exact (ty rfl); exact rfl; exact rfl; exact (by first | rfl | assumption | ((try simp only [Nat.zero_add]); refine List.getElem?_set_self ?_; (try simp only [List.length_set]); assumption)); exact rfl; exact rfl) | (apply e_g; (iterate 3 exact rfl); exact (by assumption)))
    | (show DE _ _ _ _ _ _ _ _ _ _ _ _; (first | (apply dr_nil; exact trivial)); (try simp only [put, rowsOf, plR, selE, ovr, setH, del, cellsA, splice, isV, spq, if_true, if_false]))
    | (show AW _ _ _ _ _ _ _ _; first | refine aw_region ?_ | (refine aw_seqk ?_; intro K hK) | refine aw_block ?_ | (apply aw_cond_t; exact rfl; exact (by assumption)) | (apply aw_cond_f; exact rfl; exact (by assumption)) | refine aw_skip ?_ | refine aw_drawE (id := 13) [0, 0, 3, 7, 15, 31, 63, 127, 255, 511, 1023, 511, 4095, 8191, 16383, 511, 33279, 511, 229887, 492031, 1016319, 2097151, 4194303, 8388607] [0, 0, 1, 1, 0, 0, 0, 0, 0, 0, 1, 0, 0, 0, 1, 0, 1, 0, 0, 0, 1, 0, 0, 0] mixed (by kernel_rfl) ?_)
    | refine thn_n ?_
    | (refine hK _ _ _ ?_; clear hK K)
    | refine inb_n ?_)); all_goals (repeat (clear hK K)))
            all_goals (refine ⟨i + 1, id, c3, by omega, ?_⟩; (try dsimp only); rw [hNe, hst, ← hw]; exact ⟨by (repeat (refine ⟨by first | exact lk_i rfl rfl | exact lk_r rfl rfl rfl | exact lk_s rfl rfl rfl rfl, ?_⟩)); exact trivial, by (repeat (refine ⟨by first | exact ⟨rfl, rfl, rfl⟩, ?_⟩)); exact trivial, by rfl, by exact pin_0⟩)
    · have b3 : decide ((i : Int) < ((ls.map lnL).length : Int)) = false := by rw [hli]; simpa using c3
      obtain rfl : i = ls.length := by omega
      rw [hord t c2]
      have hty : t < ys.length := by omega
      have hyx : ys.getD t 0 = ys[t] := by simp [List.getD, hty]
      obtain ⟨y0, y1⟩ := hyi t hty
      obtain ⟨a, ha⟩ : ∃ a : Nat, ys.getD t 0 = (a : Int) := ⟨(ys.getD t 0).toNat, by omega⟩
      rw [ha]
      have hal : a < ls.length := by omega
      have hra : (ls.map lnL)[((a : Int)).toNat]? = some (lnL ls[a]) := by simp [hal]
      rw [lnL_eq] at hra
      have hlt : lnAt ls (a : Int) = ls[a] := by simp [lnAt, List.getD, hal]
      obtain ⟨a0, a1, d0, d1⟩ := hL ls[a] (List.getElem_mem hal)
      have hbs := bo_get (ix := ys.take t) hal
      have hbm := bo_get (ix := spT n ls ys t) hal
      have hss : ((mb ls.length (ys.take t)).map boL).set ((a : Int)).toNat [.v (.bool true)] = (mb ls.length (ys.take (t + 1))).map boL := by
        rw [show ([AV.v (.bool true)]) = boL true from rfl, ← List.map_set, Int.toNat_natCast, mb_set hal, List.take_succ_eq_append_getElem hty, ← hyx, ha]
      have hsm : ((mb ls.length (spT n ls ys t)).map boL).set ((a : Int)).toNat [.v (.bool true)] = (mb ls.length (spT n ls ys t ++ [(a : Int)])).map boL := by
        rw [show ([AV.v (.bool true)]) = boL true from rfl, ← List.map_set, Int.toNat_natCast, mb_set hal]
      have hss0 := hss
      have hsm0 := hsm
      rw [← Nat.zero_add ((a : Int)).toNat] at hss0 hsm0
      obtain ⟨hnd, hsub⟩ := spT_nodup (n := n) (ls := ls) hyn t (by omega)
      have hmem := spT_mem (n := n) (ls := ls) (ys := ys) (i := t) (by omega)
      have hix : ∀ x ∈ spT n ls ys t, 0 ≤ x ∧ x < ls.length := fun x hx => by
        obtain ⟨j, hj, rfl⟩ := List.getElem_of_mem (hmem x hx); exact hyi j hj
      have hpr := part_reach hL hix ⟨a0, a1⟩ ⟨d0, d1⟩
      have hP := hPa (mb ls.length (spT n ls ys t)) (mb_len _ _)
      have hpl := parts_len n ls (mb ls.length (spT n ls ys t)) ls.length
      have hsu : spT n ls ys (t + 1) = if ((reachV n ls (spT n ls ys t) (lnAt ls (ys.getD t 0)).a).any fun y => y == (lnAt ls (ys.getD t 0)).b) = true then spT n ls ys t else spT n ls ys t ++ [ys.getD t 0] := rfl
      rw [ha, hlt] at hsu
      have hnd2 : (spT n ls ys t ++ [(a : Int)]).Nodup := by
        refine List.nodup_append.2 ⟨hnd, by simp, fun x hx y hy e => ?_⟩
        rw [List.mem_singleton] at hy
        have hm := hsub x hx
        rw [e, hy, ← ha, hyx] at hm
        obtain ⟨j, hj, e2⟩ := List.getElem_of_mem hm
        rw [List.length_take] at hj
        rw [List.getElem_take] at e2
        exact (List.pairwise_iff_getElem.1 hyn j t (by omega) (by omega) (by omega)) e2
      have hpu := put_srt hnd2
      have hPu := l00Put_ro (So.srt (spT n ls ys t)) (a : Int) (by rw [So.srt_len]; omega)
      rw [hpu] at hPu
      have hw : IntKind.i64.wrap ((t : Int) + 1) = ((t + 1 : Nat) : Int) := by rw [IntWalk.i64_in _ (by omega)]; omega
      generalize hNx : spT n ls ys (t + 1) = Nx at *
      generalize spT n ls ys t = ix at *
      generalize parts n ls (mb ls.length ix) ls.length = p at *
      generalize ((reachV n ls ix ls[a].a).any fun y => y == ls[a].b) = rc at *
      have hpm : (p.map inL).length = n.toNat := by rw [List.length_map, hpl]
      have a2 : ls[a].a.toNat < p.length := by omega
      have d2 : ls[a].b.toNat < p.length := by omega
      have hpa : (p.map inL)[0 + ls[a].a.toNat]? = some (inL (p.getD ls[a].a.toNat 0)) := by simp [List.getD, a2]
      have hpb : (p.map inL)[0 + ls[a].b.toNat]? = some (inL (p.getD ls[a].b.toNat 0)) := by simp [List.getD, d2]
      rw [inL_eq] at hpa hpb
      ((repeat' (first
    | (show SQ _ _ _ _ _ _ _ _; first | apply sq_nil | (apply q_move; exact rfl; exact rfl) | (apply q_assign; exact rfl; exact rfl) | (apply q_fieldAddr; exact rfl; exact rfl; exact (ty rfl); iterate 4 exact rfl) | (apply q_lend; exact rfl; exact rfl; exact (ty rfl); exact rfl) | (apply q_add; iterate 3 exact rfl) | (apply q_lss; iterate 3 exact rfl) | (apply q_ixl; (iterate 3 exact rfl); exact (ty rfl); (iterate 3 exact rfl); exact (by first | omega | (simp; done) | (simp; omega)); exact (by first | omega | (simp; done) | (simp; omega))) | (apply q_ld1p; exact rfl; exact rfl; exact (ty rfl); exact rfl; exact rfl; exact (by first | rfl | assumption | ((try simp only [Nat.zero_add]); refine List.getElem?_set_self ?_; (try simp only [List.length_set]); assumption)); exact rfl))
    | (show SQ _ _ _ _ _ _ _ _; (first | (apply q_store; exact rfl; exact rfl; exact (ty rfl); exact rfl; exact (by first | rfl | assumption | ((try simp only [Nat.zero_add]); refine List.getElem?_set_self ?_; (try simp only [List.length_set]); assumption)); iterate 3 exact rfl) | (apply q_callU; (iterate 3 exact rfl); rotate_left; exact hP _; rotate_right; focus ((repeat' (first | exact FzL.nil | exact (by assumption : FzC _) _ | refine FzL.cons ?_ ?_ | exact Fz.of rfl | exact Fz.nil | exact Fz.emp | (apply Fz.fnC; assumption) | (apply Fz.sl2; exact rfl; exact (by first | omega | (simp; done) | (simp; omega)); first | exact rfl | exact dt_full (by first | omega | (simp; done) | (simp; omega)) | assumption) | apply Fz.agg | (apply Fz.ptrL; exact rfl; first | exact rfl | assumption) | apply Fz.fnL)); done)) | (apply q_callU; (iterate 3 exact rfl); rotate_left; exact hPu _; rotate_right; focus ((repeat' (first | exact FzL.nil | exact (by assumption : FzC _) _ | refine FzL.cons ?_ ?_ | exact Fz.of rfl | exact Fz.nil | exact Fz.emp | (apply Fz.fnC; assumption) | (apply Fz.sl2; exact rfl; exact (by first | omega | (simp; done) | (simp; omega)); first | exact rfl | exact dt_full (by first | omega | (simp; done) | (simp; omega)) | assumption) | apply Fz.agg | (apply Fz.ptrL; exact rfl; first | exact rfl | assumption) | apply Fz.fnL)); done))); (try simp only [put, rowsOf, plR, selE, ovr, setH, del, cellsA, splice, isV, spq, if_true, if_false]))
    | (show DE _ _ _ _ _ _ _ _ _ _ _ _; first | (apply e_move; iterate 3 exact rfl) | (apply e_fieldAddr; exact rfl; exact rfl; exact (ty rfl); iterate 5 exact rfl) | (apply e_neq; iterate 4 exact rfl) | (apply e_ixd; (iterate 3 exact rfl); exact (ty rfl); exact rfl; exact (by first | omega | (simp; done) | (simp; omega)); exact (by first | omega | (simp; done) | (simp; omega)); exact (by first | rfl | assumption); exact rfl) | (apply e_ixl; (iterate 3 exact rfl); exact (ty rfl); (iterate 3 exact rfl); exact (by first | omega | (simp; done) | (simp; omega)); exact (by first | omega | (simp; done) | (simp; omega)); exact rfl) | (apply e_ld1d; exact rfl; exact rfl; exact (ty rfl); iterate 3 exact rfl) | (apply e_ld1p; exact rfl; exact rfl; exact (ty rfl); exact rfl; exact rfl; exact (by first | rfl | assumption | ((try simp only [Nat.zero_add]); refine List.getElem?_set_self ?_; (try simp only [List.length_set]); assumption)); exact rfl; exact rfl))
    | (show DE _ _ _ _ _ _ _ _ _ _ _ _; (first | (apply dr_nil; exact trivial)); (try simp only [put, rowsOf, plR, selE, ovr, setH, del, cellsA, splice, isV, spq, if_true, if_false]))
    | (show AW _ _ _ _ _ _ _ _; first | refine aw_region ?_ | (refine aw_seqk ?_; intro K hK) | (apply aw_cond_f; exact rfl; exact (by assumption)) | refine aw_exit ?_ | refine aw_skip ?_ | refine aw_drawE (id := 17) [0, 0, 2, 0, 14, 30, 62, 127, 255, 0, 0, 1024, 0, 7168, 15360, 31744, 65024, 130560, 262143] [0, 0, 1, 0, 0, 0, 1, 1, 1, 0, 0, 1, 0, 0, 0, 1, 1, 1, 0] mixed (by kernel_rfl) ?_ | (apply aw_ite; exact rfl; all_goals intro h))
    | refine thn_n ?_
    | (refine hK _ _ _ ?_; clear hK K)
    | refine thn_e ?_
    | refine inb_same ?_
    | refine inb_n ?_
    | (simp only [hss, hss0, hsm, hsm0])
    | (clear hK K; refine hK _ _ _ ?_; clear hK K))); all_goals (repeat (clear hK K)))
      · have hb : rc = false := by have h := hpr.symm.trans ‹_›; rwa [Bool.not_eq_true'] at h
        rw [if_neg (by rw [hb]; simp)] at hsu
        refine ⟨t + 1, fun j => [0, 1, 2, 5].getD j 0, c2, by omega, ?_⟩
        (try dsimp only); rw [hNx, hsu, ← hw]
        exact ⟨by (repeat (refine ⟨by first | exact lk_i rfl rfl | exact lk_r rfl rfl rfl | exact lk_s rfl rfl rfl rfl, ?_⟩)); exact trivial, by (repeat (refine ⟨by first | exact ⟨rfl, rfl, rfl⟩, ?_⟩)); exact trivial, by rfl, by exact pin_0⟩
      · have hb : rc = true := by have h := hpr.symm.trans ‹_›; rwa [Bool.not_eq_false'] at h
        rw [if_pos hb] at hsu
        refine ⟨t + 1, id, c2, by omega, ?_⟩
        (try dsimp only); rw [hNx, hsu, ← hw]
        exact ⟨by (repeat (refine ⟨by first | exact lk_i rfl rfl | exact lk_r rfl rfl rfl | exact lk_s rfl rfl rfl rfl, ?_⟩)); exact trivial, by (repeat (refine ⟨by first | exact ⟨rfl, rfl, rfl⟩, ?_⟩)); exact trivial, by rfl, by exact pin_0⟩
  have b2 : decide ((t : Int) < ((ls.map lnL).length : Int)) = false := by rw [hli]; simpa using c2
  obtain rfl : t = ls.length := by omega
  rw [hTd] at hsl hm1 hm3 ⊢
  have hw4 : IntKind.i64.wrap (n - 1) = n - 1 := IntWalk.i64_in _ (by omega)
  have b3 : (((So.srt Tk).length : Int) != IntKind.i64.wrap (n - 1)) = false := by rw [hw4, So.srt_len]; simpa using hv
  ((repeat' (first
    | (show SQ _ _ _ _ _ _ _ _; first | apply sq_nil | (apply q_move; exact rfl; exact rfl) | (apply q_assign; exact rfl; exact rfl) | (apply q_fieldAddr; exact rfl; exact rfl; exact (ty rfl); iterate 4 exact rfl) | (apply q_lend; exact rfl; exact rfl; exact (ty rfl); exact rfl) | (apply q_lenl; exact rfl; exact rfl; exact (ty rfl); exact rfl) | (apply q_sub; iterate 3 exact rfl) | (apply q_neq; iterate 3 exact rfl) | (apply q_lss; iterate 3 exact rfl) | (apply q_ld1p; exact rfl; exact rfl; exact (ty rfl); exact rfl; exact rfl; exact (by first | rfl | assumption | ((try simp only [Nat.zero_add]); refine List.getElem?_set_self ?_; (try simp only [List.length_set]); assumption)); exact rfl))
    | (show AW _ _ _ _ _ _ _ _; first | refine aw_region ?_ | (refine aw_seqk ?_; intro K hK) | (apply aw_cond_f; exact rfl; exact (by assumption)) | refine aw_ret ?_ | refine aw_exit ?_ | refine aw_skip ?_)
    | refine thn_n ?_
    | (refine hK _ _ _ ?_; clear hK K)
    | refine thn_e ?_
    | refine inb_same ?_
    | (clear hK K; refine hK _ _ _ ?_; clear hK K))); all_goals (repeat (clear hK K)))
  all_goals (exact fin_r (fin_m2 rfl rfl rfl _ _ (So.srt_len _) rfl rfl))
end Go.Proofs.Ytglfcaioapdiaaa.Bk

namespace Go.Proofs.Ytglfcaioapdiaaa.Aw
open Go Go.RowKit
set_option linter.unusedVariables false
section
variable {P : Program} {N n n' : Nat} {all : Array Oper} {l : List Oper} {G : Tp → Hp → Nat → Prop} {T : Tp} {H : Hp} {bs ks : List Nat} {i : Nat} {eff : List (Nat × List (Nat × Option Blk))} {ty : TypeId} {pos : String} {after : Array Edge} {d : Nat}
theorem dr_cU3 {o : Oper} {os : List Oper} {v : AV} {f : Operand} {g : FuncId} {xs : Array Operand} {ts : Array TypeId} {caps args args' : List AV} {U : Hp} (hg : o.guard = none) (hd : dOk N o.dst = true) (hk : ks.getD i 0 = 3)
    (ho : o.op = .call { callee := .value f, args := xs, argTypes := ts })
    (hf : evalA (resT (o.looksAt all) T) f = some (.fn g caps)) (ha : xs.toList.mapM (evalA (resT (o.looksAt all) T)) = some args) (hz : FzL [] (args ++ caps) args') (hro : RO P g args' n v U n')
    (h : DE P N all bs ks H G (i + 1) ((i, U.map (fun x => (x.1, some x.2))) :: eff) os (put T o.dst v) n') : DE P N all bs ks H G i eff (o :: os) T n := fun pre hl he =>
  ⟨⟨o.dst, v, U.map (fun x => (x.1, some x.2)), n, n'⟩, rfl, hro.2.1, ⟨rfl, hd, .inr ⟨.inl hg, .inr (.inr (.inl ⟨hk, U, rfl, hro.2.2.1, by
    have := s_call (H := []) (N := N) ho hf ha hz hro
    rwa [List.append_nil] at this⟩))⟩⟩, h _ (by simp [hl]) (sel_add hl he _ _ _ _ _)⟩
theorem e_callU3 {f : Operand} {g : FuncId} {xs : Array Operand} {ts : Array TypeId} {caps args args' : List AV} {v : AV} {U : Hp} (hd : Nat.blt d N = true) (hf : evalA T f = some (.fn g caps)) (ha : evalL T xs.toList = some args) (hz : FzL [] (args ++ caps) args') (hro : RO P g args' n v U n') (hk : ks.getD i 0 = 3)
    (h : DE P N all bs ks H G (i + 1) ((i, U.map (fun x => (x.1, some x.2))) :: eff) l ((d, v) :: T) n') : DE P N all bs ks H G i eff (⟨some d, .call { callee := .value f, args := xs, argTypes := ts }, ty, pos, after, none⟩ :: l) T n :=
  dr_cU3 rfl hd hk rfl (evalR hf fun t ht => callF ht) (mapR (evalL_m ha) fun x hx t ht => callA hx ht) hz hro h
end
theorem RO.nil2 {P : Program} {f : FuncId} {args : List AV} {k : Nat} {e : Value} (ty : TypeId) (h : RO P f args k (.tup [.v (.slice none 0 0), .v e]) [] k) : RO P f args k (.tup [.sl k 0 0, .v e]) [(k, ⟨ty, 1, true, []⟩)] (k + 1) := by
  obtain ⟨h1, h2, h3, h4⟩ := h
  have hU : ∀ (i : Nat) (b : Blk), Aw.look [(k, (⟨ty, 1, true, []⟩ : Blk))] i = some b → i = k ∧ b = ⟨ty, 1, true, []⟩ := fun i b hb => by
    rw [look_cons] at hb
    split at hb
    · rename_i he; subst he; cases hb; exact ⟨rfl, rfl⟩
    · simp [look_nil] at hb
  refine ⟨h1, Nat.le_succ _, fun i b hb => by obtain ⟨rfl, _⟩ := hU i b hb; exact ⟨Nat.le_refl _, Nat.lt_succ_self _⟩, fun K w xs hk hv => (h4 K w xs hk hv).mono ?_⟩
  rintro e' w' ⟨r, m', he, hr⟩
  refine ⟨r, fun _ => ⟨0, 0, 0, true⟩, he, hr.below, ?_, (fun i _ _ hp => by cases hp), (fun i b hb => by obtain ⟨rfl, _⟩ := hU i b hb; exact ⟨Nat.le_refl _, Nat.lt_succ_self _⟩), (fun i b hb => ?_), (fun i j bi bj _ _ _ hp => by cases hp), (fun i b _ _ => by show (0 : Nat) ≠ 1; omega)⟩
  · have hv := hr.vr
    cases hv with
    | tup _ _ xs hl hv =>
      refine .tup _ _ xs hl fun j cv x hj hx => ?_
      match j, hj with
      | 0, hj =>
        cases hj
        have := hv 0 _ x rfl hx
        cases this
        exact .sl0 _ _ _ _ ⟨Nat.le_refl _, Nat.lt_succ_self _⟩
      | 1, hj =>
        cases hj
        have := hv 1 _ x rfl hx
        cases this
        exact .v _ _
  · obtain ⟨rfl, rfl⟩ := hU i b hb; exact .inl ⟨rfl, rfl⟩
end Go.Proofs.Ytglfcaioapdiaaa.Aw

namespace Go.Proofs.Ytglfcaioapdiaaa.Bk
open Go Go.RowKit Go.Proofs.Ytglfcaioapdiaaa.Aw Go.Proofs.Ytglfcaioapdiaaa.Sr
set_option linter.unusedSimpArgs false
set_option linter.unusedVariables false
attribute [local irreducible] AW SQ Step RO RC DE Thn InB
theorem bkB_32 {n : Int} {ls : List Ln} (h : bkB n ls = true) : ls.length ≤ 32 := by
  simp only [bkB, Bool.and_eq_true, decide_eq_true_eq] at h
  omega
theorem treK_le (n : Int) (ls : List Ln) : (treK n ls).length ≤ ls.length := spT_len n ls (ordK ls) ls.length
theorem specSpan_any (n : Int) (ls : List Ln) (hn : ls.length ≤ 1048576) : ∃ (R : List Int) (e : Int), R.length ≤ ls.length ∧ ∀ k, RO Try.prog 30 [.agg (bkL n ls)] k (.tup [.sl k 0 R.length, .v (.int .i64 e)]) [(k, ⟨2, 1, true, R.map inL⟩)] (k + 1) := by
  cases h : bkB n ls with
  | false => exact ⟨[], 1, Nat.zero_le _, fun k => RO.nil2 _ (specSpan_bad_ro n ls hn h k)⟩
  | true =>
    have h32 := bkB_32 h
    by_cases c : ((treK n ls).length : Int) = n - 1
    · refine ⟨So.srt (treK n ls), 0, by rw [So.srt_len]; exact treK_le n ls, fun k => ?_⟩
      have := specSpan_okR n ls hn h32 h c k
      rw [So.srt_len]; exact this
    · exact ⟨[], 3, Nat.zero_le _, fun k => RO.nil2 _ (specSpan_none n ls hn h32 h c k)⟩
theorem putV_len (xs : List Int) (x : Int) : (putV xs x).length ≤ xs.length + 1 := by
  have := pst_len xs x xs.length
  unfold putV
  split
  · exact this.1
  · rename_i h
    rw [List.length_append, this.2 (by simpa using h)]; simp
structure Bq (s : Sr) (k n : Int) (ls : List Ln) (zs : List Int) (s' : Sr) : Prop where
  nb : n ≤ 100
  le : ls.length ≤ 32
  zl : zs.length ≤ 33
  ok : s'.ok (k + 2200)
  rc : ∀ j id, RC Try.prog 82 [.ptr id 0 0] [(id, ⟨133, 3, false, [srR s]⟩)] j (.tup [.agg [.v (.int .i64 n), .sl j 0 ls.length], .dsl 1 (zs.map inL)]) [(id, some ⟨133, 3, false, [srR s']⟩), (j, some ⟨56, 4, true, ls.map lnL⟩)] (j + 1)
theorem l25DrawTree_ex {s : Sr} {k : Int} (h : s.ok k) (hk : k ≤ 80000) : ∃ n ls zs s', Bq s k n ls zs s' := by
  obtain ⟨n, ls, s1, h1⟩ := l25Draw_ex h (by omega)
  have r1 := h1.rc
  have hL := h1.le
  have hnb := h1.nb
  have hok := l25Ok_ro n ls (by omega)
  have hli : (ls.map lnL).length = ls.length := List.length_map _
  obtain ⟨R, e, hR, hS⟩ := specSpan_any n ls (by omega)
  have o1 := fun id => one_rc id s1 5 (h1.ok.mono (by omega)) (by omega)
  have hok2 := pk_ok 5 h1.ok
  generalize pk s1 5 = P at *
  obtain ⟨p, s2⟩ := P
  dsimp only at o1 hok2
  have go : ∀ (ok : Bool) (R : List Int), bkB n ls = ok → (ok = true → ∀ k, RO Try.prog 30 [.agg (bkL n ls)] k (.tup [.sl k 0 R.length, .v (.int .i64 e)]) [(k, ⟨2, 1, true, R.map inL⟩)] (k + 1)) → (ok = false → R = []) → R.length ≤ 32 → ∃ n ls zs s', Bq s k n ls zs s' := by
    intro ok R hb hS h0 hR
    rw [hb] at hok
    have hml : (R.map inL).length = R.length := List.length_map _
    by_cases c1 : p = 0 ∧ 0 < ls.length
    · obtain ⟨rfl, c2⟩ := c1
      have b1 : ((0 : Int) == 0) = true := rfl
      have b2 : decide ((0 : Int) < (ls.length : Int)) = true := by rw [decide_eq_true_eq]; omega
      have h2 := fun id => pick_rc id s2 (ls.length : Int) (hok2.mono (by omega)) (by omega)
      have hok3 := pk_ok (ls.length : Int) hok2
      generalize pk s2 (ls.length : Int) = P at *
      obtain ⟨q, s3⟩ := P
      dsimp only at h2 hok3
      have hO := l00Own_ro R (by omega)
      have hP := l00Put_ro R q (by omega)
      have hpl := putV_len R q
      generalize hZ : putV R q = Z at *
      have hmz : (Z.map inL).length = Z.length := List.length_map _
      refine ⟨n, ls, if 1 < Z.length then Z.drop 1 else Z, s3, hnb, hL, by split <;> (try rw [List.length_drop]) <;> omega, hok3.mono (by omega), fun j id => ?_⟩
      generalize hW : (if 1 < Z.length then Z.drop 1 else Z) = W
      refine RC.ofc [id] 1 [.ptr 0 0 0] [(0, ⟨133, 3, false, [srR s]⟩)] (.tup [.agg [.v (.int .i64 n), .sl 1 0 ls.length], .dsl 1 (W.map inL)]) [(0, some ⟨133, 3, false, [srR s3]⟩), (1, some ⟨56, 4, true, ls.map lnL⟩)] Try.func82 Try.ntmps82 rfl (goFn_of Try.func82 rfl (by kernel_rfl)) rfl rfl rfl rfl rfl rfl rfl rfl (by simp_all) rfl ?_
      unfold bkL at hok hS
      have hZW : 1 < Z.length → Z.drop 1 = W := fun h => by rw [← hW, if_pos h]
      have hZW2 : ¬ 1 < Z.length → Z = W := fun h => by rw [← hW, if_neg h]
      cases ok with
      | false =>
        obtain rfl := h0 rfl
        by_cases c3 : 1 < Z.length
        · have b3 : decide ((1 : Int) < ((Z.map inL).length : Int)) = true := by rw [hmz, decide_eq_true_eq]; omega
          have hdr : (Z.map inL).drop 1 = W.map inL := by rw [← hZW c3, List.map_drop]
          ((repeat' (first
    | (show SQ _ _ _ _ _ _ _ _; apply sq_frz (t := 5); exact rfl; exact rfl; exact (by first | rfl | exact all_noOwn_map (fun _ => rfl) | assumption | exact hclo); exact (by first | omega | (simp; done) | (simp; omega)); exact (by first | exact dt_full (by first | omega | (simp; done) | (simp; omega)) | assumption | rfl); (try simp only [put, rowsOf, plR, selE, ovr, setH, del, cellsA, splice, isV, spq, if_true, if_false]))
    | (show SQ _ _ _ _ _ _ _ _; first | apply sq_nil | (apply q_move; exact rfl; exact rfl) | (apply q_assign; exact rfl; exact rfl) | (apply q_pick_t; (iterate 3 exact rfl); exact (by first | assumption | exact rfl)) | (apply q_fieldAddr; exact rfl; exact rfl; exact (ty rfl); iterate 4 exact rfl) | (apply q_lenl; exact rfl; exact rfl; exact (ty rfl); exact rfl) | (apply q_gtr; iterate 3 exact rfl) | (apply q_ld1p; exact rfl; exact rfl; exact (ty rfl); exact rfl; exact rfl; exact (by first | rfl | assumption | ((try simp only [Nat.zero_add]); refine List.getElem?_set_self ?_; (try simp only [List.length_set]); assumption)); exact rfl) | (apply q_g; (iterate 3 exact rfl); exact (by assumption)))
    | (show SQ _ _ _ _ _ _ _ _; (first | (apply q_alloc; exact rfl; exact (ty rfl); exact rfl; exact rfl) | (apply q_store; exact rfl; exact rfl; exact (ty rfl); exact rfl; exact (by first | rfl | assumption | ((try simp only [Nat.zero_add]); refine List.getElem?_set_self ?_; (try simp only [List.length_set]); assumption)); iterate 3 exact rfl) | (apply q_build0; exact rfl; exact (ty rfl); exact rfl) | (apply q_callU; (iterate 3 exact rfl); rotate_left; exact hok _; rotate_right; focus ((repeat' (first | exact FzL.nil | exact (by assumption : FzC _) _ | refine FzL.cons ?_ ?_ | exact Fz.of rfl | exact Fz.nil | exact Fz.emp | (apply Fz.fnC; assumption) | (apply Fz.sl2; exact rfl; exact (by first | omega | (simp; done) | (simp; omega)); first | exact rfl | exact dt_full (by first | omega | (simp; done) | (simp; omega)) | assumption) | apply Fz.agg | (apply Fz.ptrL; exact rfl; first | exact rfl | assumption) | apply Fz.fnL)); done)) | (apply q_callC; (iterate 3 exact rfl); exact r1 _ 0; (focus ((repeat (first | exact trivial | refine ⟨by first | exact rfl | assumption, ?_⟩)); done)); skip) | (apply q_callC; (iterate 3 exact rfl); exact o1 0 _; (focus ((repeat (first | exact trivial | refine ⟨by first | exact rfl | assumption, ?_⟩)); done)); skip)); (try simp only [put, rowsOf, plR, selE, ovr, setH, del, cellsA, splice, isV, spq, if_true, if_false]))
    | (show DE _ _ _ _ _ _ _ _ _ _ _ _; first | (apply e_move; iterate 3 exact rfl))
    | (show AW _ _ _ _ _ _ _ _; first | refine aw_region ?_ | (refine aw_seqk ?_; intro K hK) | (apply aw_cond_f; exact rfl; exact rfl) | (apply aw_cond_t; exact rfl; exact (by assumption)) | refine aw_skip ?_ | refine aw_drawE (id := 6) [0, 1, 0, 0, 8, 24, 63, 127, 255] [0, 3, 0, 0, 0, 0, 2, 1, 0, 4, 3] mixed (by kernel_rfl) ?_)
    | refine thn_n ?_
    | (refine hK _ _ _ ?_; clear hK K))); all_goals (repeat (clear hK K)))
          refine e_callU3 rfl rfl rfl (FzL.of rfl) (hO _) rfl ?_
          ((repeat' (first
    | (show AW _ _ _ _ _ _ _ _; apply aw_frz (t := 5); exact rfl; exact rfl; exact (by first | rfl | exact all_noOwn_map (fun _ => rfl) | assumption | exact hclo); exact (by first | omega | (simp; done) | (simp; omega)); exact (by first | exact dt_full (by first | omega | (simp; done) | (simp; omega)) | assumption | rfl); (try simp only [put, rowsOf, plR, selE, ovr, setH, del, cellsA, splice, isV, spq, if_true, if_false]))
    | (show SQ _ _ _ _ _ _ _ _; first | apply sq_nil | (apply q_move; exact rfl; exact rfl) | (apply q_assign; exact rfl; exact rfl) | (apply q_lend; exact rfl; exact rfl; exact (ty rfl); exact rfl) | (apply q_gtr; iterate 3 exact rfl) | (apply q_sdl_l; (iterate 3 exact rfl); exact (ty rfl); exact rfl; exact (by first | omega | (simp; done) | (simp; omega)); exact (by first | omega | (simp; done) | (simp; omega))))
    | (show SQ _ _ _ _ _ _ _ _; (first | (apply q_ldap; exact rfl; exact rfl; exact (ty rfl); exact rfl; exact rfl; exact (by first | rfl | assumption | ((try simp only [Nat.zero_add]); refine List.getElem?_set_self ?_; (try simp only [List.length_set]); assumption)); exact rfl) | (apply q_store; exact rfl; exact rfl; exact (ty rfl); exact rfl; exact (by first | rfl | assumption | ((try simp only [Nat.zero_add]); refine List.getElem?_set_self ?_; (try simp only [List.length_set]); assumption)); iterate 3 exact rfl)); (try simp only [put, rowsOf, plR, selE, ovr, setH, del, cellsA, splice, isV, spq, if_true, if_false]))
    | (show DE _ _ _ _ _ _ _ _ _ _ _ _; first | (apply e_move; iterate 3 exact rfl) | (apply e_assign; iterate 3 exact rfl) | (apply e_fieldAddr; exact rfl; exact rfl; exact (ty rfl); iterate 5 exact rfl) | (apply e_lenl; exact rfl; exact rfl; exact (ty rfl); exact rfl; exact rfl))
    | (show DE _ _ _ _ _ _ _ _ _ _ _ _; (first | (apply dr_nil; (focus ((repeat (first | exact trivial | exact Or.inr rfl | exact Or.inl (by kernel_rfl) | apply And.intro)); done))) | (apply e_rd1; exact rfl; exact rfl; exact (ty rfl); exact rfl; exact rfl; exact (by first | rfl | assumption | ((try simp only [Nat.zero_add]); refine List.getElem?_set_self ?_; (try simp only [List.length_set]); assumption)); iterate 3 exact rfl) | (apply e_callU; (iterate 3 exact rfl); exact FzL.of rfl; exact hP _; exact rfl) | (apply e_callC; (iterate 3 exact rfl); exact h2 0 _; (focus ((repeat (first | exact trivial | refine ⟨by first | exact rfl | assumption, ?_⟩)); done)); exact rfl; skip)); (try simp only [put, rowsOf, plR, selE, ovr, setH, del, cellsA, splice, isV, spq, if_true, if_false]))
    | (show AW _ _ _ _ _ _ _ _; first | refine aw_region ?_ | (refine aw_seqk ?_; intro K hK) | (apply aw_cond_t; exact rfl; exact (by assumption)) | refine aw_ret ?_)
    | refine thn_n ?_
    | (refine hK _ _ _ ?_; clear hK K))); all_goals (repeat (clear hK K)))
          exact finc (fun z => if z = 1 then 2 else z) (.r2 _ _ _ _ (.agg _ _ _ _ _ rfl (.inr ⟨_, _, _, _, _, rfl, rfl, rfl, rfl⟩) (ty rfl) rfl (Nat.le_of_ble_eq_true rfl)) (.tmp _ _ rfl)) (by rw [← hdr]; rfl) (fun z hz => by simp at hz; simp; omega) ⟨rfl, rfl, trivial⟩ rfl
        · have b3 : decide ((1 : Int) < ((Z.map inL).length : Int)) = false := by rw [hmz, decide_eq_false_iff_not]; omega
          obtain rfl := hZW2 c3
          ((repeat' (first
    | (show SQ _ _ _ _ _ _ _ _; apply sq_frz (t := 5); exact rfl; exact rfl; exact (by first | rfl | exact all_noOwn_map (fun _ => rfl) | assumption | exact hclo); exact (by first | omega | (simp; done) | (simp; omega)); exact (by first | exact dt_full (by first | omega | (simp; done) | (simp; omega)) | assumption | rfl); (try simp only [put, rowsOf, plR, selE, ovr, setH, del, cellsA, splice, isV, spq, if_true, if_false]))
    | (show SQ _ _ _ _ _ _ _ _; first | apply sq_nil | (apply q_move; exact rfl; exact rfl) | (apply q_assign; exact rfl; exact rfl) | (apply q_pick_t; (iterate 3 exact rfl); exact (by first | assumption | exact rfl)) | (apply q_fieldAddr; exact rfl; exact rfl; exact (ty rfl); iterate 4 exact rfl) | (apply q_lenl; exact rfl; exact rfl; exact (ty rfl); exact rfl) | (apply q_gtr; iterate 3 exact rfl) | (apply q_ld1p; exact rfl; exact rfl; exact (ty rfl); exact rfl; exact rfl; exact (by first | rfl | assumption | ((try simp only [Nat.zero_add]); refine List.getElem?_set_self ?_; (try simp only [List.length_set]); assumption)); exact rfl) | (apply q_g; (iterate 3 exact rfl); exact (by assumption)))
    | (show SQ _ _ _ _ _ _ _ _; (first | (apply q_alloc; exact rfl; exact (ty rfl); exact rfl; exact rfl) | (apply q_store; exact rfl; exact rfl; exact (ty rfl); exact rfl; exact (by first | rfl | assumption | ((try simp only [Nat.zero_add]); refine List.getElem?_set_self ?_; (try simp only [List.length_set]); assumption)); iterate 3 exact rfl) | (apply q_build0; exact rfl; exact (ty rfl); exact rfl) | (apply q_callU; (iterate 3 exact rfl); rotate_left; exact hok _; rotate_right; focus ((repeat' (first | exact FzL.nil | exact (by assumption : FzC _) _ | refine FzL.cons ?_ ?_ | exact Fz.of rfl | exact Fz.nil | exact Fz.emp | (apply Fz.fnC; assumption) | (apply Fz.sl2; exact rfl; exact (by first | omega | (simp; done) | (simp; omega)); first | exact rfl | exact dt_full (by first | omega | (simp; done) | (simp; omega)) | assumption) | apply Fz.agg | (apply Fz.ptrL; exact rfl; first | exact rfl | assumption) | apply Fz.fnL)); done)) | (apply q_callC; (iterate 3 exact rfl); exact r1 _ 0; (focus ((repeat (first | exact trivial | refine ⟨by first | exact rfl | assumption, ?_⟩)); done)); skip) | (apply q_callC; (iterate 3 exact rfl); exact o1 0 _; (focus ((repeat (first | exact trivial | refine ⟨by first | exact rfl | assumption, ?_⟩)); done)); skip)); (try simp only [put, rowsOf, plR, selE, ovr, setH, del, cellsA, splice, isV, spq, if_true, if_false]))
    | (show DE _ _ _ _ _ _ _ _ _ _ _ _; first | (apply e_move; iterate 3 exact rfl))
    | (show AW _ _ _ _ _ _ _ _; first | refine aw_region ?_ | (refine aw_seqk ?_; intro K hK) | (apply aw_cond_f; exact rfl; exact rfl) | (apply aw_cond_t; exact rfl; exact (by assumption)) | refine aw_skip ?_ | refine aw_drawE (id := 6) [0, 1, 0, 0, 8, 24, 63, 127, 255] [0, 3, 0, 0, 0, 0, 2, 1, 0, 4, 3] mixed (by kernel_rfl) ?_)
    | refine thn_n ?_
    | (refine hK _ _ _ ?_; clear hK K))); all_goals (repeat (clear hK K)))
          refine e_callU3 rfl rfl rfl (FzL.of rfl) (hO _) rfl ?_
          ((repeat' (first
    | (show AW _ _ _ _ _ _ _ _; apply aw_frz (t := 5); exact rfl; exact rfl; exact (by first | rfl | exact all_noOwn_map (fun _ => rfl) | assumption | exact hclo); exact (by first | omega | (simp; done) | (simp; omega)); exact (by first | exact dt_full (by first | omega | (simp; done) | (simp; omega)) | assumption | rfl); (try simp only [put, rowsOf, plR, selE, ovr, setH, del, cellsA, splice, isV, spq, if_true, if_false]))
    | (show SQ _ _ _ _ _ _ _ _; first | apply sq_nil | (apply q_move; exact rfl; exact rfl) | (apply q_assign; exact rfl; exact rfl) | (apply q_lend; exact rfl; exact rfl; exact (ty rfl); exact rfl) | (apply q_gtr; iterate 3 exact rfl))
    | (show SQ _ _ _ _ _ _ _ _; (first | (apply q_ldap; exact rfl; exact rfl; exact (ty rfl); exact rfl; exact rfl; exact (by first | rfl | assumption | ((try simp only [Nat.zero_add]); refine List.getElem?_set_self ?_; (try simp only [List.length_set]); assumption)); exact rfl) | (apply q_store; exact rfl; exact rfl; exact (ty rfl); exact rfl; exact (by first | rfl | assumption | ((try simp only [Nat.zero_add]); refine List.getElem?_set_self ?_; (try simp only [List.length_set]); assumption)); iterate 3 exact rfl)); (try simp only [put, rowsOf, plR, selE, ovr, setH, del, cellsA, splice, isV, spq, if_true, if_false]))
    | (show DE _ _ _ _ _ _ _ _ _ _ _ _; first | (apply e_move; iterate 3 exact rfl) | (apply e_assign; iterate 3 exact rfl) | (apply e_fieldAddr; exact rfl; exact rfl; exact (ty rfl); iterate 5 exact rfl) | (apply e_lenl; exact rfl; exact rfl; exact (ty rfl); exact rfl; exact rfl))
    | (show DE _ _ _ _ _ _ _ _ _ _ _ _; (first | (apply dr_nil; (focus ((repeat (first | exact trivial | exact Or.inr rfl | exact Or.inl (by kernel_rfl) | apply And.intro)); done))) | (apply e_rd1; exact rfl; exact rfl; exact (ty rfl); exact rfl; exact rfl; exact (by first | rfl | assumption | ((try simp only [Nat.zero_add]); refine List.getElem?_set_self ?_; (try simp only [List.length_set]); assumption)); iterate 3 exact rfl) | (apply e_callU; (iterate 3 exact rfl); exact FzL.of rfl; exact hP _; exact rfl) | (apply e_callC; (iterate 3 exact rfl); exact h2 0 _; (focus ((repeat (first | exact trivial | refine ⟨by first | exact rfl | assumption, ?_⟩)); done)); exact rfl; skip)); (try simp only [put, rowsOf, plR, selE, ovr, setH, del, cellsA, splice, isV, spq, if_true, if_false]))
    | (show AW _ _ _ _ _ _ _ _; first | refine aw_region ?_ | (refine aw_seqk ?_; intro K hK) | (apply aw_cond_f; exact rfl; exact (by assumption)) | refine aw_ret ?_ | refine aw_skip ?_)
    | refine thn_n ?_
    | (refine hK _ _ _ ?_; clear hK K))); all_goals (repeat (clear hK K)))
          exact finc (fun z => if z = 1 then 2 else z) (.r2 _ _ _ _ (.agg _ _ _ _ _ rfl (.inr ⟨_, _, _, _, _, rfl, rfl, rfl, rfl⟩) (ty rfl) rfl (Nat.le_of_ble_eq_true rfl)) (.tmp _ _ rfl)) rfl (fun z hz => by simp at hz; simp; omega) ⟨rfl, rfl, trivial⟩ rfl
      | true =>
        have hS := hS rfl
        by_cases c3 : 1 < Z.length
        · have b3 : decide ((1 : Int) < ((Z.map inL).length : Int)) = true := by rw [hmz, decide_eq_true_eq]; omega
          have hdr : (Z.map inL).drop 1 = W.map inL := by rw [← hZW c3, List.map_drop]
          ((repeat' (first
    | (show SQ _ _ _ _ _ _ _ _; apply sq_frz (t := 5); exact rfl; exact rfl; exact (by first | rfl | exact all_noOwn_map (fun _ => rfl) | assumption | exact hclo); exact (by first | omega | (simp; done) | (simp; omega)); exact (by first | exact dt_full (by first | omega | (simp; done) | (simp; omega)) | assumption | rfl); (try simp only [put, rowsOf, plR, selE, ovr, setH, del, cellsA, splice, isV, spq, if_true, if_false]))
    | (show SQ _ _ _ _ _ _ _ _; first | apply sq_nil | (apply q_move; exact rfl; exact rfl) | (apply q_assign; exact rfl; exact rfl) | (apply q_pick_t; (iterate 3 exact rfl); exact (by first | assumption | exact rfl)) | (apply q_fieldAddr; exact rfl; exact rfl; exact (ty rfl); iterate 4 exact rfl) | (apply q_ext; iterate 3 exact rfl) | (apply q_lenl; exact rfl; exact rfl; exact (ty rfl); exact rfl) | (apply q_gtr; iterate 3 exact rfl) | (apply q_ld1p; exact rfl; exact rfl; exact (ty rfl); exact rfl; exact rfl; exact (by first | rfl | assumption | ((try simp only [Nat.zero_add]); refine List.getElem?_set_self ?_; (try simp only [List.length_set]); assumption)); exact rfl) | (apply q_g; (iterate 3 exact rfl); exact (by assumption)))
    | (show SQ _ _ _ _ _ _ _ _; (first | (apply q_ldap; exact rfl; exact rfl; exact (ty rfl); exact rfl; exact rfl; exact (by first | rfl | assumption | ((try simp only [Nat.zero_add]); refine List.getElem?_set_self ?_; (try simp only [List.length_set]); assumption)); exact rfl) | (apply q_alloc; exact rfl; exact (ty rfl); exact rfl; exact rfl) | (apply q_store; exact rfl; exact rfl; exact (ty rfl); exact rfl; exact (by first | rfl | assumption | ((try simp only [Nat.zero_add]); refine List.getElem?_set_self ?_; (try simp only [List.length_set]); assumption)); iterate 3 exact rfl) | (apply q_build0; exact rfl; exact (ty rfl); exact rfl) | (apply q_callU; (iterate 3 exact rfl); rotate_left; exact hok _; rotate_right; focus ((repeat' (first | exact FzL.nil | exact (by assumption : FzC _) _ | refine FzL.cons ?_ ?_ | exact Fz.of rfl | exact Fz.nil | exact Fz.emp | (apply Fz.fnC; assumption) | (apply Fz.sl2; exact rfl; exact (by first | omega | (simp; done) | (simp; omega)); first | exact rfl | exact dt_full (by first | omega | (simp; done) | (simp; omega)) | assumption) | apply Fz.agg | (apply Fz.ptrL; exact rfl; first | exact rfl | assumption) | apply Fz.fnL)); done)) | (apply q_callU; (iterate 3 exact rfl); rotate_left; exact hS _; rotate_right; focus ((repeat' (first | exact FzL.nil | exact (by assumption : FzC _) _ | refine FzL.cons ?_ ?_ | exact Fz.of rfl | exact Fz.nil | exact Fz.emp | (apply Fz.fnC; assumption) | (apply Fz.sl2; exact rfl; exact (by first | omega | (simp; done) | (simp; omega)); first | exact rfl | exact dt_full (by first | omega | (simp; done) | (simp; omega)) | assumption) | apply Fz.agg | (apply Fz.ptrL; exact rfl; first | exact rfl | assumption) | apply Fz.fnL)); done)) | (apply q_callC; (iterate 3 exact rfl); exact r1 _ 0; (focus ((repeat (first | exact trivial | refine ⟨by first | exact rfl | assumption, ?_⟩)); done)); skip) | (apply q_callC; (iterate 3 exact rfl); exact o1 0 _; (focus ((repeat (first | exact trivial | refine ⟨by first | exact rfl | assumption, ?_⟩)); done)); skip)); (try simp only [put, rowsOf, plR, selE, ovr, setH, del, cellsA, splice, isV, spq, if_true, if_false]))
    | (show DE _ _ _ _ _ _ _ _ _ _ _ _; first | (apply e_move; iterate 3 exact rfl))
    | (show AW _ _ _ _ _ _ _ _; first | refine aw_region ?_ | (refine aw_seqk ?_; intro K hK) | (apply aw_cond_t; exact rfl; exact rfl) | (apply aw_cond_t; exact rfl; exact (by assumption)) | refine aw_drawE (id := 6) [0, 1, 0, 0, 8, 24, 63, 127, 255] [0, 3, 0, 0, 0, 0, 2, 1, 0, 4, 3] mixed (by kernel_rfl) ?_)
    | refine thn_n ?_
    | (refine hK _ _ _ ?_; clear hK K))); all_goals (repeat (clear hK K)))
          refine e_callU3 rfl rfl rfl (FzL.of rfl) (hO _) rfl ?_
          ((repeat' (first
    | (show AW _ _ _ _ _ _ _ _; apply aw_frz (t := 5); exact rfl; exact rfl; exact (by first | rfl | exact all_noOwn_map (fun _ => rfl) | assumption | exact hclo); exact (by first | omega | (simp; done) | (simp; omega)); exact (by first | exact dt_full (by first | omega | (simp; done) | (simp; omega)) | assumption | rfl); (try simp only [put, rowsOf, plR, selE, ovr, setH, del, cellsA, splice, isV, spq, if_true, if_false]))
    | (show SQ _ _ _ _ _ _ _ _; first | apply sq_nil | (apply q_move; exact rfl; exact rfl) | (apply q_assign; exact rfl; exact rfl) | (apply q_lend; exact rfl; exact rfl; exact (ty rfl); exact rfl) | (apply q_gtr; iterate 3 exact rfl) | (apply q_sdl_l; (iterate 3 exact rfl); exact (ty rfl); exact rfl; exact (by first | omega | (simp; done) | (simp; omega)); exact (by first | omega | (simp; done) | (simp; omega))))
    | (show SQ _ _ _ _ _ _ _ _; (first | (apply q_ldap; exact rfl; exact rfl; exact (ty rfl); exact rfl; exact rfl; exact (by first | rfl | assumption | ((try simp only [Nat.zero_add]); refine List.getElem?_set_self ?_; (try simp only [List.length_set]); assumption)); exact rfl) | (apply q_store; exact rfl; exact rfl; exact (ty rfl); exact rfl; exact (by first | rfl | assumption | ((try simp only [Nat.zero_add]); refine List.getElem?_set_self ?_; (try simp only [List.length_set]); assumption)); iterate 3 exact rfl)); (try simp only [put, rowsOf, plR, selE, ovr, setH, del, cellsA, splice, isV, spq, if_true, if_false]))
    | (show DE _ _ _ _ _ _ _ _ _ _ _ _; first | (apply e_move; iterate 3 exact rfl) | (apply e_assign; iterate 3 exact rfl) | (apply e_fieldAddr; exact rfl; exact rfl; exact (ty rfl); iterate 5 exact rfl) | (apply e_lenl; exact rfl; exact rfl; exact (ty rfl); exact rfl; exact rfl))
    | (show DE _ _ _ _ _ _ _ _ _ _ _ _; (first | (apply dr_nil; (focus ((repeat (first | exact trivial | exact Or.inr rfl | exact Or.inl (by kernel_rfl) | apply And.intro)); done))) | (apply e_rd1; exact rfl; exact rfl; exact (ty rfl); exact rfl; exact rfl; exact (by first | rfl | assumption | ((try simp only [Nat.zero_add]); refine List.getElem?_set_self ?_; (try simp only [List.length_set]); assumption)); iterate 3 exact rfl) | (apply e_callU; (iterate 3 exact rfl); rotate_left; exact hP _; exact rfl; rotate_right; focus ((repeat' (first | exact FzL.nil | exact (by assumption : FzC _) _ | refine FzL.cons ?_ ?_ | exact Fz.of rfl | exact Fz.nil | exact Fz.emp | (apply Fz.fnC; assumption) | (apply Fz.sl2; exact rfl; exact (by first | omega | (simp; done) | (simp; omega)); first | exact rfl | exact dt_full (by first | omega | (simp; done) | (simp; omega)) | assumption) | apply Fz.agg | (apply Fz.ptrL; exact rfl; first | exact rfl | assumption) | apply Fz.fnL)); done)) | (apply e_callC; (iterate 3 exact rfl); exact h2 0 _; (focus ((repeat (first | exact trivial | refine ⟨by first | exact rfl | assumption, ?_⟩)); done)); exact rfl; skip)); (try simp only [put, rowsOf, plR, selE, ovr, setH, del, cellsA, splice, isV, spq, if_true, if_false]))
    | (show AW _ _ _ _ _ _ _ _; first | refine aw_region ?_ | (refine aw_seqk ?_; intro K hK) | (apply aw_cond_t; exact rfl; exact (by assumption)) | refine aw_ret ?_)
    | refine thn_n ?_
    | (refine hK _ _ _ ?_; clear hK K))); all_goals (repeat (clear hK K)))
          exact finc (fun z => if z = 1 then 2 else z) (.r2 _ _ _ _ (.agg _ _ _ _ _ rfl (.inr ⟨_, _, _, _, _, rfl, rfl, rfl, rfl⟩) (ty rfl) rfl (Nat.le_of_ble_eq_true rfl)) (.tmp _ _ rfl)) (by rw [← hdr]; rfl) (fun z hz => by simp at hz; simp; omega) ⟨rfl, rfl, trivial⟩ rfl
        · have b3 : decide ((1 : Int) < ((Z.map inL).length : Int)) = false := by rw [hmz, decide_eq_false_iff_not]; omega
          obtain rfl := hZW2 c3
          ((repeat' (first
    | (show SQ _ _ _ _ _ _ _ _; apply sq_frz (t := 5); exact rfl; exact rfl; exact (by first | rfl | exact all_noOwn_map (fun _ => rfl) | assumption | exact hclo); exact (by first | omega | (simp; done) | (simp; omega)); exact (by first | exact dt_full (by first | omega | (simp; done) | (simp; omega)) | assumption | rfl); (try simp only [put, rowsOf, plR, selE, ovr, setH, del, cellsA, splice, isV, spq, if_true, if_false]))
    | (show SQ _ _ _ _ _ _ _ _; first | apply sq_nil | (apply q_move; exact rfl; exact rfl) | (apply q_assign; exact rfl; exact rfl) | (apply q_pick_t; (iterate 3 exact rfl); exact (by first | assumption | exact rfl)) | (apply q_fieldAddr; exact rfl; exact rfl; exact (ty rfl); iterate 4 exact rfl) | (apply q_ext; iterate 3 exact rfl) | (apply q_lenl; exact rfl; exact rfl; exact (ty rfl); exact rfl) | (apply q_gtr; iterate 3 exact rfl) | (apply q_ld1p; exact rfl; exact rfl; exact (ty rfl); exact rfl; exact rfl; exact (by first | rfl | assumption | ((try simp only [Nat.zero_add]); refine List.getElem?_set_self ?_; (try simp only [List.length_set]); assumption)); exact rfl) | (apply q_g; (iterate 3 exact rfl); exact (by assumption)))
    | (show SQ _ _ _ _ _ _ _ _; (first | (apply q_ldap; exact rfl; exact rfl; exact (ty rfl); exact rfl; exact rfl; exact (by first | rfl | assumption | ((try simp only [Nat.zero_add]); refine List.getElem?_set_self ?_; (try simp only [List.length_set]); assumption)); exact rfl) | (apply q_alloc; exact rfl; exact (ty rfl); exact rfl; exact rfl) | (apply q_store; exact rfl; exact rfl; exact (ty rfl); exact rfl; exact (by first | rfl | assumption | ((try simp only [Nat.zero_add]); refine List.getElem?_set_self ?_; (try simp only [List.length_set]); assumption)); iterate 3 exact rfl) | (apply q_build0; exact rfl; exact (ty rfl); exact rfl) | (apply q_callU; (iterate 3 exact rfl); rotate_left; exact hok _; rotate_right; focus ((repeat' (first | exact FzL.nil | exact (by assumption : FzC _) _ | refine FzL.cons ?_ ?_ | exact Fz.of rfl | exact Fz.nil | exact Fz.emp | (apply Fz.fnC; assumption) | (apply Fz.sl2; exact rfl; exact (by first | omega | (simp; done) | (simp; omega)); first | exact rfl | exact dt_full (by first | omega | (simp; done) | (simp; omega)) | assumption) | apply Fz.agg | (apply Fz.ptrL; exact rfl; first | exact rfl | assumption) | apply Fz.fnL)); done)) | (apply q_callU; (iterate 3 exact rfl); rotate_left; exact hS _; rotate_right; focus ((repeat' (first | exact FzL.nil | exact (by assumption : FzC _) _ | refine FzL.cons ?_ ?_ | exact Fz.of rfl | exact Fz.nil | exact Fz.emp | (apply Fz.fnC; assumption) | (apply Fz.sl2; exact rfl; exact (by first | omega | (simp; done) | (simp; omega)); first | exact rfl | exact dt_full (by first | omega | (simp; done) | (simp; omega)) | assumption) | apply Fz.agg | (apply Fz.ptrL; exact rfl; first | exact rfl | assumption) | apply Fz.fnL)); done)) | (apply q_callC; (iterate 3 exact rfl); exact r1 _ 0; (focus ((repeat (first | exact trivial | refine ⟨by first | exact rfl | assumption, ?_⟩)); done)); skip) | (apply q_callC; (iterate 3 exact rfl); exact o1 0 _; (focus ((repeat (first | exact trivial | refine ⟨by first | exact rfl | assumption, ?_⟩)); done)); skip)); (try simp only [put, rowsOf, plR, selE, ovr, setH, del, cellsA, splice, isV, spq, if_true, if_false]))
    | (show DE _ _ _ _ _ _ _ _ _ _ _ _; first | (apply e_move; iterate 3 exact rfl))
    | (show AW _ _ _ _ _ _ _ _; first | refine aw_region ?_ | (refine aw_seqk ?_; intro K hK) | (apply aw_cond_t; exact rfl; exact rfl) | (apply aw_cond_t; exact rfl; exact (by assumption)) | refine aw_drawE (id := 6) [0, 1, 0, 0, 8, 24, 63, 127, 255] [0, 3, 0, 0, 0, 0, 2, 1, 0, 4, 3] mixed (by kernel_rfl) ?_)
    | refine thn_n ?_
    | (refine hK _ _ _ ?_; clear hK K))); all_goals (repeat (clear hK K)))
          refine e_callU3 rfl rfl rfl (FzL.of rfl) (hO _) rfl ?_
          ((repeat' (first
    | (show AW _ _ _ _ _ _ _ _; apply aw_frz (t := 5); exact rfl; exact rfl; exact (by first | rfl | exact all_noOwn_map (fun _ => rfl) | assumption | exact hclo); exact (by first | omega | (simp; done) | (simp; omega)); exact (by first | exact dt_full (by first | omega | (simp; done) | (simp; omega)) | assumption | rfl); (try simp only [put, rowsOf, plR, selE, ovr, setH, del, cellsA, splice, isV, spq, if_true, if_false]))
    | (show SQ _ _ _ _ _ _ _ _; first | apply sq_nil | (apply q_move; exact rfl; exact rfl) | (apply q_assign; exact rfl; exact rfl) | (apply q_lend; exact rfl; exact rfl; exact (ty rfl); exact rfl) | (apply q_gtr; iterate 3 exact rfl))
    | (show SQ _ _ _ _ _ _ _ _; (first | (apply q_ldap; exact rfl; exact rfl; exact (ty rfl); exact rfl; exact rfl; exact (by first | rfl | assumption | ((try simp only [Nat.zero_add]); refine List.getElem?_set_self ?_; (try simp only [List.length_set]); assumption)); exact rfl) | (apply q_store; exact rfl; exact rfl; exact (ty rfl); exact rfl; exact (by first | rfl | assumption | ((try simp only [Nat.zero_add]); refine List.getElem?_set_self ?_; (try simp only [List.length_set]); assumption)); iterate 3 exact rfl)); (try simp only [put, rowsOf, plR, selE, ovr, setH, del, cellsA, splice, isV, spq, if_true, if_false]))
    | (show DE _ _ _ _ _ _ _ _ _ _ _ _; first | (apply e_move; iterate 3 exact rfl) | (apply e_assign; iterate 3 exact rfl) | (apply e_fieldAddr; exact rfl; exact rfl; exact (ty rfl); iterate 5 exact rfl) | (apply e_lenl; exact rfl; exact rfl; exact (ty rfl); exact rfl; exact rfl))
    | (show DE _ _ _ _ _ _ _ _ _ _ _ _; (first | (apply dr_nil; (focus ((repeat (first | exact trivial | exact Or.inr rfl | exact Or.inl (by kernel_rfl) | apply And.intro)); done))) | (apply e_rd1; exact rfl; exact rfl; exact (ty rfl); exact rfl; exact rfl; exact (by first | rfl | assumption | ((try simp only [Nat.zero_add]); refine List.getElem?_set_self ?_; (try simp only [List.length_set]); assumption)); iterate 3 exact rfl) | (apply e_callU; (iterate 3 exact rfl); rotate_left; exact hP _; exact rfl; rotate_right; focus ((repeat' (first | exact FzL.nil | exact (by assumption : FzC _) _ | refine FzL.cons ?_ ?_ | exact Fz.of rfl | exact Fz.nil | exact Fz.emp | (apply Fz.fnC; assumption) | (apply Fz.sl2; exact rfl; exact (by first | omega | (simp; done) | (simp; omega)); first | exact rfl | exact dt_full (by first | omega | (simp; done) | (simp; omega)) | assumption) | apply Fz.agg | (apply Fz.ptrL; exact rfl; first | exact rfl | assumption) | apply Fz.fnL)); done)) | (apply e_callC; (iterate 3 exact rfl); exact h2 0 _; (focus ((repeat (first | exact trivial | refine ⟨by first | exact rfl | assumption, ?_⟩)); done)); exact rfl; skip)); (try simp only [put, rowsOf, plR, selE, ovr, setH, del, cellsA, splice, isV, spq, if_true, if_false]))
    | (show AW _ _ _ _ _ _ _ _; first | refine aw_region ?_ | (refine aw_seqk ?_; intro K hK) | (apply aw_cond_f; exact rfl; exact (by assumption)) | refine aw_ret ?_ | refine aw_skip ?_)
    | refine thn_n ?_
    | (refine hK _ _ _ ?_; clear hK K))); all_goals (repeat (clear hK K)))
          exact finc (fun z => if z = 1 then 2 else z) (.r2 _ _ _ _ (.agg _ _ _ _ _ rfl (.inr ⟨_, _, _, _, _, rfl, rfl, rfl, rfl⟩) (ty rfl) rfl (Nat.le_of_ble_eq_true rfl)) (.tmp _ _ rfl)) rfl (fun z hz => by simp at hz; simp; omega) ⟨rfl, rfl, trivial⟩ rfl
    · refine ⟨n, ls, R, s2, hnb, hL, by omega, hok2.mono (by omega), fun j id => ?_⟩
      refine RC.ofc [id] 1 [.ptr 0 0 0] [(0, ⟨133, 3, false, [srR s]⟩)] (.tup [.agg [.v (.int .i64 n), .sl 1 0 ls.length], .dsl 1 (R.map inL)]) [(0, some ⟨133, 3, false, [srR s2]⟩), (1, some ⟨56, 4, true, ls.map lnL⟩)] Try.func82 Try.ntmps82 rfl (goFn_of Try.func82 rfl (by kernel_rfl)) rfl rfl rfl rfl rfl rfl rfl rfl (by simp_all) rfl ?_
      unfold bkL at hok hS
      by_cases c2 : p = 0
      · have b1 : (p == 0) = true := by simpa using c2
        have b2 : decide ((0 : Int) < (ls.length : Int)) = false := by rw [decide_eq_false_iff_not]; intro h; exact c1 ⟨c2, by omega⟩
        cases ok with
        | false =>
          obtain rfl := h0 rfl
          ((repeat' (first
    | (show SQ _ _ _ _ _ _ _ _; apply sq_frz (t := 5); exact rfl; exact rfl; exact (by first | rfl | exact all_noOwn_map (fun _ => rfl) | assumption | exact hclo); exact (by first | omega | (simp; done) | (simp; omega)); exact (by first | exact dt_full (by first | omega | (simp; done) | (simp; omega)) | assumption | rfl); (try simp only [put, rowsOf, plR, selE, ovr, setH, del, cellsA, splice, isV, spq, if_true, if_false]))
    | (show SQ _ _ _ _ _ _ _ _; first | apply sq_nil | (apply q_move; exact rfl; exact rfl) | (apply q_assign; exact rfl; exact rfl) | (apply q_pick_t; (iterate 3 exact rfl); exact (by first | assumption | exact rfl)) | (apply q_fieldAddr; exact rfl; exact rfl; exact (ty rfl); iterate 4 exact rfl) | (apply q_lenl; exact rfl; exact rfl; exact (ty rfl); exact rfl) | (apply q_gtr; iterate 3 exact rfl) | (apply q_ld1p; exact rfl; exact rfl; exact (ty rfl); exact rfl; exact rfl; exact (by first | rfl | assumption | ((try simp only [Nat.zero_add]); refine List.getElem?_set_self ?_; (try simp only [List.length_set]); assumption)); exact rfl) | (apply q_g; (iterate 3 exact rfl); exact (by assumption)))
    | (show SQ _ _ _ _ _ _ _ _; (first | (apply q_ldap; exact rfl; exact rfl; exact (ty rfl); exact rfl; exact rfl; exact (by first | rfl | assumption | ((try simp only [Nat.zero_add]); refine List.getElem?_set_self ?_; (try simp only [List.length_set]); assumption)); exact rfl) | (apply q_alloc; exact rfl; exact (ty rfl); exact rfl; exact rfl) | (apply q_store; exact rfl; exact rfl; exact (ty rfl); exact rfl; exact (by first | rfl | assumption | ((try simp only [Nat.zero_add]); refine List.getElem?_set_self ?_; (try simp only [List.length_set]); assumption)); iterate 3 exact rfl) | (apply q_build0; exact rfl; exact (ty rfl); exact rfl) | (apply q_callU; (iterate 3 exact rfl); rotate_left; exact hok _; rotate_right; focus ((repeat' (first | exact FzL.nil | exact (by assumption : FzC _) _ | refine FzL.cons ?_ ?_ | exact Fz.of rfl | exact Fz.nil | exact Fz.emp | (apply Fz.fnC; assumption) | (apply Fz.sl2; exact rfl; exact (by first | omega | (simp; done) | (simp; omega)); first | exact rfl | exact dt_full (by first | omega | (simp; done) | (simp; omega)) | assumption) | apply Fz.agg | (apply Fz.ptrL; exact rfl; first | exact rfl | assumption) | apply Fz.fnL)); done)) | (apply q_callC; (iterate 3 exact rfl); exact r1 _ 0; (focus ((repeat (first | exact trivial | refine ⟨by first | exact rfl | assumption, ?_⟩)); done)); skip) | (apply q_callC; (iterate 3 exact rfl); exact o1 0 _; (focus ((repeat (first | exact trivial | refine ⟨by first | exact rfl | assumption, ?_⟩)); done)); skip)); (try simp only [put, rowsOf, plR, selE, ovr, setH, del, cellsA, splice, isV, spq, if_true, if_false]))
    | (show AW _ _ _ _ _ _ _ _; first | refine aw_region ?_ | (refine aw_seqk ?_; intro K hK) | (apply aw_cond_f; exact rfl; exact rfl) | (apply aw_cond_f; exact rfl; exact (by assumption)) | refine aw_ret ?_ | refine aw_skip ?_)
    | refine thn_n ?_
    | (refine hK _ _ _ ?_; clear hK K))); all_goals (repeat (clear hK K)))
          exact finc (fun z => if z = 1 then 2 else z) (.r2 _ _ _ _ (.agg _ _ _ _ _ rfl (.inr ⟨_, _, _, _, _, rfl, rfl, rfl, rfl⟩) (ty rfl) rfl (Nat.le_of_ble_eq_true rfl)) (.tmp _ _ rfl)) rfl (fun z hz => by simp at hz; simp; omega) ⟨rfl, rfl, trivial⟩ rfl
        | true =>
          have hS := hS rfl
          ((repeat' (first
    | (show SQ _ _ _ _ _ _ _ _; apply sq_frz (t := 5); exact rfl; exact rfl; exact (by first | rfl | exact all_noOwn_map (fun _ => rfl) | assumption | exact hclo); exact (by first | omega | (simp; done) | (simp; omega)); exact (by first | exact dt_full (by first | omega | (simp; done) | (simp; omega)) | assumption | rfl); (try simp only [put, rowsOf, plR, selE, ovr, setH, del, cellsA, splice, isV, spq, if_true, if_false]))
    | (show SQ _ _ _ _ _ _ _ _; first | apply sq_nil | (apply q_move; exact rfl; exact rfl) | (apply q_assign; exact rfl; exact rfl) | (apply q_pick_t; (iterate 3 exact rfl); exact (by first | assumption | exact rfl)) | (apply q_fieldAddr; exact rfl; exact rfl; exact (ty rfl); iterate 4 exact rfl) | (apply q_ext; iterate 3 exact rfl) | (apply q_lenl; exact rfl; exact rfl; exact (ty rfl); exact rfl) | (apply q_gtr; iterate 3 exact rfl) | (apply q_ld1p; exact rfl; exact rfl; exact (ty rfl); exact rfl; exact rfl; exact (by first | rfl | assumption | ((try simp only [Nat.zero_add]); refine List.getElem?_set_self ?_; (try simp only [List.length_set]); assumption)); exact rfl) | (apply q_g; (iterate 3 exact rfl); exact (by assumption)))
    | (show SQ _ _ _ _ _ _ _ _; (first | (apply q_ldap; exact rfl; exact rfl; exact (ty rfl); exact rfl; exact rfl; exact (by first | rfl | assumption | ((try simp only [Nat.zero_add]); refine List.getElem?_set_self ?_; (try simp only [List.length_set]); assumption)); exact rfl) | (apply q_alloc; exact rfl; exact (ty rfl); exact rfl; exact rfl) | (apply q_store; exact rfl; exact rfl; exact (ty rfl); exact rfl; exact (by first | rfl | assumption | ((try simp only [Nat.zero_add]); refine List.getElem?_set_self ?_; (try simp only [List.length_set]); assumption)); iterate 3 exact rfl) | (apply q_build0; exact rfl; exact (ty rfl); exact rfl) | (apply q_callU; (iterate 3 exact rfl); rotate_left; exact hok _; rotate_right; focus ((repeat' (first | exact FzL.nil | exact (by assumption : FzC _) _ | refine FzL.cons ?_ ?_ | exact Fz.of rfl | exact Fz.nil | exact Fz.emp | (apply Fz.fnC; assumption) | (apply Fz.sl2; exact rfl; exact (by first | omega | (simp; done) | (simp; omega)); first | exact rfl | exact dt_full (by first | omega | (simp; done) | (simp; omega)) | assumption) | apply Fz.agg | (apply Fz.ptrL; exact rfl; first | exact rfl | assumption) | apply Fz.fnL)); done)) | (apply q_callU; (iterate 3 exact rfl); rotate_left; exact hS _; rotate_right; focus ((repeat' (first | exact FzL.nil | exact (by assumption : FzC _) _ | refine FzL.cons ?_ ?_ | exact Fz.of rfl | exact Fz.nil | exact Fz.emp | (apply Fz.fnC; assumption) | (apply Fz.sl2; exact rfl; exact (by first | omega | (simp; done) | (simp; omega)); first | exact rfl | exact dt_full (by first | omega | (simp; done) | (simp; omega)) | assumption) | apply Fz.agg | (apply Fz.ptrL; exact rfl; first | exact rfl | assumption) | apply Fz.fnL)); done)) | (apply q_callC; (iterate 3 exact rfl); exact r1 _ 0; (focus ((repeat (first | exact trivial | refine ⟨by first | exact rfl | assumption, ?_⟩)); done)); skip) | (apply q_callC; (iterate 3 exact rfl); exact o1 0 _; (focus ((repeat (first | exact trivial | refine ⟨by first | exact rfl | assumption, ?_⟩)); done)); skip)); (try simp only [put, rowsOf, plR, selE, ovr, setH, del, cellsA, splice, isV, spq, if_true, if_false]))
    | (show AW _ _ _ _ _ _ _ _; first | refine aw_region ?_ | (refine aw_seqk ?_; intro K hK) | (apply aw_cond_t; exact rfl; exact rfl) | (apply aw_cond_f; exact rfl; exact (by assumption)) | refine aw_ret ?_ | refine aw_skip ?_)
    | refine thn_n ?_
    | (refine hK _ _ _ ?_; clear hK K))); all_goals (repeat (clear hK K)))
          exact finc (fun z => if z = 1 then 2 else z) (.r2 _ _ _ _ (.agg _ _ _ _ _ rfl (.inr ⟨_, _, _, _, _, rfl, rfl, rfl, rfl⟩) (ty rfl) rfl (Nat.le_of_ble_eq_true rfl)) (.tmp _ _ rfl)) rfl (fun z hz => by simp at hz; simp; omega) ⟨rfl, rfl, trivial⟩ rfl
      · have b1 : (p == 0) = false := by simpa using c2
        cases ok with
        | false =>
          obtain rfl := h0 rfl
          ((repeat' (first
    | (show SQ _ _ _ _ _ _ _ _; apply sq_frz (t := 5); exact rfl; exact rfl; exact (by first | rfl | exact all_noOwn_map (fun _ => rfl) | assumption | exact hclo); exact (by first | omega | (simp; done) | (simp; omega)); exact (by first | exact dt_full (by first | omega | (simp; done) | (simp; omega)) | assumption | rfl); (try simp only [put, rowsOf, plR, selE, ovr, setH, del, cellsA, splice, isV, spq, if_true, if_false]))
    | (show SQ _ _ _ _ _ _ _ _; first | apply sq_nil | (apply q_move; exact rfl; exact rfl) | (apply q_assign; exact rfl; exact rfl) | (apply q_pick_f; (iterate 3 exact rfl); exact (by first | assumption | exact rfl)) | (apply q_s; (iterate 3 exact rfl); exact (by assumption); exact rfl))
    | (show SQ _ _ _ _ _ _ _ _; (first | (apply q_ldap; exact rfl; exact rfl; exact (ty rfl); exact rfl; exact rfl; exact (by first | rfl | assumption | ((try simp only [Nat.zero_add]); refine List.getElem?_set_self ?_; (try simp only [List.length_set]); assumption)); exact rfl) | (apply q_alloc; exact rfl; exact (ty rfl); exact rfl; exact rfl) | (apply q_store; exact rfl; exact rfl; exact (ty rfl); exact rfl; exact (by first | rfl | assumption | ((try simp only [Nat.zero_add]); refine List.getElem?_set_self ?_; (try simp only [List.length_set]); assumption)); iterate 3 exact rfl) | (apply q_build0; exact rfl; exact (ty rfl); exact rfl) | (apply q_callU; (iterate 3 exact rfl); rotate_left; exact hok _; rotate_right; focus ((repeat' (first | exact FzL.nil | exact (by assumption : FzC _) _ | refine FzL.cons ?_ ?_ | exact Fz.of rfl | exact Fz.nil | exact Fz.emp | (apply Fz.fnC; assumption) | (apply Fz.sl2; exact rfl; exact (by first | omega | (simp; done) | (simp; omega)); first | exact rfl | exact dt_full (by first | omega | (simp; done) | (simp; omega)) | assumption) | apply Fz.agg | (apply Fz.ptrL; exact rfl; first | exact rfl | assumption) | apply Fz.fnL)); done)) | (apply q_callC; (iterate 3 exact rfl); exact r1 _ 0; (focus ((repeat (first | exact trivial | refine ⟨by first | exact rfl | assumption, ?_⟩)); done)); skip) | (apply q_callC; (iterate 3 exact rfl); exact o1 0 _; (focus ((repeat (first | exact trivial | refine ⟨by first | exact rfl | assumption, ?_⟩)); done)); skip)); (try simp only [put, rowsOf, plR, selE, ovr, setH, del, cellsA, splice, isV, spq, if_true, if_false]))
    | (show AW _ _ _ _ _ _ _ _; first | refine aw_region ?_ | (refine aw_seqk ?_; intro K hK) | (apply aw_cond_f; exact rfl; exact rfl) | refine aw_ret ?_ | refine aw_skip ?_)
    | refine thn_n ?_
    | (refine hK _ _ _ ?_; clear hK K))); all_goals (repeat (clear hK K)))
          exact finc (fun z => if z = 1 then 2 else z) (.r2 _ _ _ _ (.agg _ _ _ _ _ rfl (.inr ⟨_, _, _, _, _, rfl, rfl, rfl, rfl⟩) (ty rfl) rfl (Nat.le_of_ble_eq_true rfl)) (.tmp _ _ rfl)) rfl (fun z hz => by simp at hz; simp; omega) ⟨rfl, rfl, trivial⟩ rfl
        | true =>
          have hS := hS rfl
          ((repeat' (first
    | (show SQ _ _ _ _ _ _ _ _; apply sq_frz (t := 5); exact rfl; exact rfl; exact (by first | rfl | exact all_noOwn_map (fun _ => rfl) | assumption | exact hclo); exact (by first | omega | (simp; done) | (simp; omega)); exact (by first | exact dt_full (by first | omega | (simp; done) | (simp; omega)) | assumption | rfl); (try simp only [put, rowsOf, plR, selE, ovr, setH, del, cellsA, splice, isV, spq, if_true, if_false]))
    | (show SQ _ _ _ _ _ _ _ _; first | apply sq_nil | (apply q_move; exact rfl; exact rfl) | (apply q_assign; exact rfl; exact rfl) | (apply q_pick_f; (iterate 3 exact rfl); exact (by first | assumption | exact rfl)) | (apply q_ext; iterate 3 exact rfl) | (apply q_s; (iterate 3 exact rfl); exact (by assumption); exact rfl))
    | (show SQ _ _ _ _ _ _ _ _; (first | (apply q_ldap; exact rfl; exact rfl; exact (ty rfl); exact rfl; exact rfl; exact (by first | rfl | assumption | ((try simp only [Nat.zero_add]); refine List.getElem?_set_self ?_; (try simp only [List.length_set]); assumption)); exact rfl) | (apply q_alloc; exact rfl; exact (ty rfl); exact rfl; exact rfl) | (apply q_store; exact rfl; exact rfl; exact (ty rfl); exact rfl; exact (by first | rfl | assumption | ((try simp only [Nat.zero_add]); refine List.getElem?_set_self ?_; (try simp only [List.length_set]); assumption)); iterate 3 exact rfl) | (apply q_build0; exact rfl; exact (ty rfl); exact rfl) | (apply q_callU; (iterate 3 exact rfl); rotate_left; exact hok _; rotate_right; focus ((repeat' (first | exact FzL.nil | exact (by assumption : FzC _) _ | refine FzL.cons ?_ ?_ | exact Fz.of rfl | exact Fz.nil | exact Fz.emp | (apply Fz.fnC; assumption) | (apply Fz.sl2; exact rfl; exact (by first | omega | (simp; done) | (simp; omega)); first | exact rfl | exact dt_full (by first | omega | (simp; done) | (simp; omega)) | assumption) | apply Fz.agg | (apply Fz.ptrL; exact rfl; first | exact rfl | assumption) | apply Fz.fnL)); done)) | (apply q_callU; (iterate 3 exact rfl); rotate_left; exact hS _; rotate_right; focus ((repeat' (first | exact FzL.nil | exact (by assumption : FzC _) _ | refine FzL.cons ?_ ?_ | exact Fz.of rfl | exact Fz.nil | exact Fz.emp | (apply Fz.fnC; assumption) | (apply Fz.sl2; exact rfl; exact (by first | omega | (simp; done) | (simp; omega)); first | exact rfl | exact dt_full (by first | omega | (simp; done) | (simp; omega)) | assumption) | apply Fz.agg | (apply Fz.ptrL; exact rfl; first | exact rfl | assumption) | apply Fz.fnL)); done)) | (apply q_callC; (iterate 3 exact rfl); exact r1 _ 0; (focus ((repeat (first | exact trivial | refine ⟨by first | exact rfl | assumption, ?_⟩)); done)); skip) | (apply q_callC; (iterate 3 exact rfl); exact o1 0 _; (focus ((repeat (first | exact trivial | refine ⟨by first | exact rfl | assumption, ?_⟩)); done)); skip)); (try simp only [put, rowsOf, plR, selE, ovr, setH, del, cellsA, splice, isV, spq, if_true, if_false]))
    | (show AW _ _ _ _ _ _ _ _; first | refine aw_region ?_ | (refine aw_seqk ?_; intro K hK) | (apply aw_cond_t; exact rfl; exact rfl) | (apply aw_cond_f; exact rfl; exact rfl) | refine aw_ret ?_ | refine aw_skip ?_)
    | refine thn_n ?_
    | (refine hK _ _ _ ?_; clear hK K))); all_goals (repeat (clear hK K)))
          exact finc (fun z => if z = 1 then 2 else z) (.r2 _ _ _ _ (.agg _ _ _ _ _ rfl (.inr ⟨_, _, _, _, _, rfl, rfl, rfl, rfl⟩) (ty rfl) rfl (Nat.le_of_ble_eq_true rfl)) (.tmp _ _ rfl)) rfl (fun z hz => by simp at hz; simp; omega) ⟨rfl, rfl, trivial⟩ rfl
  cases h : bkB n ls with
  | false => exact go false [] h (fun h => by cases h) (fun _ => rfl) (by simp)
  | true => exact go true R h (fun _ => hS) (fun h => by cases h) (by omega)
def dmF (s : Sr) : Nat → Sr × List Int
  | 0 => (s, [])
  | i + 1 => ((pk (dmF s i).1 90).2, (dmF s i).2 ++ [(pk (dmF s i).1 90).1])
theorem dmF_ok {s : Sr} {k : Int} (h : s.ok k) : ∀ i : Nat, (dmF s i).1.ok (k + 2 * (i : Int)) ∧ (dmF s i).2.length = i
  | 0 => ⟨h.mono (by omega), rfl⟩
  | i + 1 => ⟨(pk_ok 90 (dmF_ok h i).1).mono (by omega), by simp [dmF, (dmF_ok h i).2]⟩
end Go.Proofs.Ytglfcaioapdiaaa.Bk

namespace Go.Proofs.Ytglfcaioapdiaaa.Bk
open Go Go.RowKit Go.Proofs.Ytglfcaioapdiaaa.Aw Go.Proofs.Ytglfcaioapdiaaa.Sr
set_option linter.unusedSimpArgs false
set_option linter.unusedVariables false
attribute [local irreducible] AW SQ Step RO RC DE Thn InB
theorem DrawLoadsOf_ex (bs : List Int) (hb : ∀ b ∈ bs, 0 ≤ b ∧ b ≤ 255) (hn : bs.length ≤ 9223372036854775807) : ∃ (n : Int) (ls : List Ln) (zs : List Int) (root : Int) (d : List Int), n ≤ 100 ∧ ls.length ≤ 32 ∧ d.length ≤ 200 ∧
    ∀ k, RC Try.prog 40 [.dsl 1 (byL bs)] [] k (.tup [.agg [.v (.int .i64 n), .sl k 0 ls.length], .dsl 1 (zs.map inL), .v (.int .i64 root), .sl (k + 1) 0 d.length]) [(k, some ⟨56, 4, true, ls.map lnL⟩), (k + 1, some ⟨2, 1, true, d.map inL⟩)] (k + 2) := by
  have hok : (⟨bs, 0, 0⟩ : Sr).ok 0 := ⟨hb, by simp, by simp, hn⟩
  obtain ⟨n, ls, zs, s1, h1⟩ := l25DrawTree_ex hok (by omega)
  have r1 := h1.rc
  have hM := l00Max_ro n 1
  have hm : 1 ≤ (if n < 1 then 1 else n) ∧ (if n < 1 then 1 else n) ≤ 100 := by have := h1.nb; split <;> omega
  generalize (if n < 1 then 1 else n) = m' at hM hm
  obtain ⟨m, rfl⟩ : ∃ m : Nat, m' = m := ⟨m'.toNat, by omega⟩
  have hok1 := h1.ok
  have hD := fun i => dmF_ok hok1 i
  obtain ⟨hok2, hdl⟩ := dmF_ok hok1 m
  have hZ0 : ∃ Z, dmF s1 m = Z := ⟨_, rfl⟩
  obtain ⟨⟨s2, d0⟩, hZ⟩ := hZ0
  rw [hZ] at hok2 hdl
  dsimp only at hok2 hdl
  have hdm : (d0.map inL).length = m := by rw [List.length_map, hdl]
  have hp := fun id => pick_rc id s2 14 (hok2.mono (by omega)) (by omega)
  have hok3 := pk_ok 14 hok2
  generalize pk s2 14 = P at *
  obtain ⟨p, s3⟩ := P
  dsimp only at hp hok3
  by_cases c0 : p = 0
  · have b0 : (p == 0) = true := by simpa using c0
    have hr := fun id => pick_rc id s3 (m : Int) (hok3.mono (by omega)) (by omega)
    have hok5 := pk_ok (m : Int) hok3
    generalize pk s3 (m : Int) = P at *
    obtain ⟨root, s5⟩ := P
    dsimp only at hr hok5
    have hq := fun id => one_rc id s5 12 (hok5.mono (by omega)) (by omega)
    have hok6 := pk_ok 12 hok5
    generalize pk s5 12 = P at *
    obtain ⟨q, s6⟩ := P
    dsimp only at hq hok6
    by_cases c3 : q = 0
    · have b3 : (q == 0) = true := by simpa using c3
      have a2 := among_rc 1 7 s6 [-1, (m : Int)] (by decide) (hok6.mono (by omega)) (by simp) (by simp)
      generalize am [-1, (m : Int)] s6 = A at *
      obtain ⟨v, s7⟩ := A
      dsimp only at a2
      simp only [nuR, List.map_cons, List.map_nil, List.length_cons, List.length_nil] at a2
      refine ⟨n, ls, zs, v, (d0 ++ [0]), h1.nb, h1.le, by (try simp); omega, fun k => ?_⟩
      refine RC.ofc [] 2 [.dsl 1 (byL bs)] [] (.tup [.agg [.v (.int .i64 n), .sl 0 0 ls.length], .dsl 1 (zs.map inL), .v (.int .i64 v), .sl 1 0 (d0 ++ [0]).length]) [(0, some ⟨56, 4, true, ls.map lnL⟩), (1, some ⟨2, 1, true, (d0 ++ [0]).map inL⟩)] Try.func40 Try.ntmps40 rfl (goFn_of Try.func40 rfl (by kernel_rfl)) rfl rfl rfl rfl rfl rfl rfl rfl (by simp_all) rfl ?_
      ((repeat' (first
    | (show SQ _ _ _ _ _ _ _ _; first | apply sq_nil | (apply q_move; exact rfl; exact rfl) | (apply q_assign; exact rfl; exact rfl) | (apply q_fieldAddr; exact rfl; exact rfl; exact (ty rfl); iterate 4 exact rfl) | (apply q_ext; iterate 3 exact rfl) | (apply q_ld1p; exact rfl; exact rfl; exact (ty rfl); exact rfl; exact rfl; exact (by first | rfl | assumption | ((try simp only [Nat.zero_add]); refine List.getElem?_set_self ?_; (try simp only [List.length_set]); assumption)); exact rfl))
    | (show SQ _ _ _ _ _ _ _ _; (first | (apply q_alloc; exact rfl; exact (ty rfl); exact rfl; exact rfl) | (apply q_store; exact rfl; exact rfl; exact (ty rfl); exact rfl; exact (by first | rfl | assumption | ((try simp only [Nat.zero_add]); refine List.getElem?_set_self ?_; (try simp only [List.length_set]); assumption)); iterate 3 exact rfl) | (apply q_build0; exact rfl; exact (ty rfl); exact rfl) | (apply q_callU; (iterate 3 exact rfl); exact FzL.of rfl; exact hM _) | (apply q_callC; (iterate 3 exact rfl); exact l00From_rc bs _; (focus ((repeat (first | exact trivial | refine ⟨by first | exact rfl | assumption, ?_⟩)); done)); skip) | (apply q_callC; (iterate 3 exact rfl); exact r1 _ 1; (focus ((repeat (first | exact trivial | refine ⟨by first | exact rfl | assumption, ?_⟩)); done)); skip)); (try simp only [put, rowsOf, plR, selE, ovr, setH, del, cellsA, splice, isV, spq, if_true, if_false]))
    | (show AW _ _ _ _ _ _ _ _; first | refine aw_region ?_ | (refine aw_seqk ?_; intro K hK) | refine aw_block ?_)
    | refine thn_n ?_
    | (refine hK _ _ _ ?_; clear hK K))); all_goals (repeat (clear hK K)))
      refine aw_loop (ρ := fun z => z) (ι := Nat) (fun i => ([(11, .v (.int .i64 (i : Int))), (10, .sl 4 0 i), (9, .v (.int .i64 (m : Int))), (8, .dsl 1 (zs.map inL)), (7, .ptr 3 0 0), (6, .ptr 1 0 0), (2, .ptr 0 0 0)],
        [(4, ⟨2, 1, true, (dmF s1 i).2.map inL⟩), (3, ⟨31, 2, false, [[.v (.int .i64 n), .sl 2 0 ls.length]]⟩), (1, ⟨133, 3, false, [srR (dmF s1 i).1]⟩), (2, ⟨56, 4, true, ls.map lnL⟩), (0, ⟨31, 2, false, [[.v (.int .i64 0), .v (.slice none 0 0)]]⟩)], 5))
        (fun i => i ≤ m) (fun i => m - i) 0 (Nat.zero_le _) ⟨by (repeat (refine ⟨by first | exact lk_i rfl rfl | exact lk_d rfl rfl | exact lk_r rfl rfl rfl | exact lk_s rfl rfl rfl rfl, ?_⟩)); exact trivial, by (repeat (refine ⟨by first | exact ⟨rfl, rfl, rfl⟩, ?_⟩)); exact trivial, by rfl, by exact pin_0⟩ ?_
      intro i hi
      obtain ⟨g1, g2⟩ := hD i
      have hml : ((dmF s1 i).2.map inL).length = i := by rw [List.length_map, g2]
      by_cases c9 : i < m
      · have b9 : decide ((i : Int) < (m : Int)) = true := by simpa using c9
        have hw : IntKind.i64.wrap ((i : Int) + 1) = ((i + 1 : Nat) : Int) := by rw [IntWalk.i64_in _ (by omega)]; omega
        have h2 := fun id => pick_rc id (dmF s1 i).1 90 (g1.mono (by omega)) (by omega)
        have e1 : (dmF s1 (i + 1)).1 = (pk (dmF s1 i).1 90).2 := rfl
        have e2 : (dmF s1 (i + 1)).2 = (dmF s1 i).2 ++ [(pk (dmF s1 i).1 90).1] := rfl
        ((repeat' (first
    | (show SQ _ _ _ _ _ _ _ _; first | apply sq_nil | (apply q_move; exact rfl; exact rfl) | (apply q_assign; exact rfl; exact rfl) | (apply q_add; iterate 3 exact rfl) | (apply q_lss; iterate 3 exact rfl))
    | (show SQ _ _ _ _ _ _ _ _; (first | (apply q_buildn; exact rfl; exact (ty rfl); iterate 7 exact rfl) | (apply q_apo_s; (iterate 3 exact rfl); exact (ty rfl); exact rfl; exact rfl; exact (by first | omega | (simp; done) | (simp; omega)); exact (by first | exact List.take_of_length_le (by first | omega | (simp; done) | (simp; omega)) | rfl); exact (ty rfl); exact rfl; exact rfl; exact (by first | omega | (simp; done) | (simp; omega)); exact (by first | exact dt_full (by first | omega | (simp; done) | (simp; omega)) | assumption | rfl); exact rfl; exact (by first | omega | (simp; done) | (simp; omega)); exact (by first | omega | (simp; done) | (simp; omega)); exact (by first | assumption | exact rfl)) | (apply q_callC; (iterate 3 exact rfl); exact h2 1 _; (focus ((repeat (first | exact trivial | refine ⟨by first | exact rfl | assumption, ?_⟩)); done)); skip)); (try simp only [put, rowsOf, plR, selE, ovr, setH, del, cellsA, splice, isV, spq, if_true, if_false]))
    | (show AW _ _ _ _ _ _ _ _; first | refine aw_region ?_ | (refine aw_seqk ?_; intro K hK) | refine aw_block ?_ | (apply aw_cond_t; exact rfl; exact (by assumption)) | refine aw_skip ?_)
    | refine thn_n ?_
    | (refine hK _ _ _ ?_; clear hK K)
    | refine inb_n ?_)); all_goals (repeat (clear hK K)))
        all_goals (refine ⟨i + 1, fun j => [0, 1, 2, 3, 6].getD j 0, c9, by omega, ?_⟩; (try dsimp only); rw [e1, e2, List.map_append, ← hw]; exact ⟨by (repeat (refine ⟨by first | exact lk_i rfl rfl | exact lk_d rfl rfl | exact lk_r rfl rfl rfl | exact lk_s rfl rfl rfl rfl, ?_⟩)); exact trivial, by (repeat (refine ⟨by first | exact ⟨rfl, rfl, rfl⟩, ?_⟩)); exact trivial, by rfl, by exact pin_0⟩)
      have b9 : decide ((i : Int) < (m : Int)) = false := by simpa using c9
      obtain rfl : i = m := by omega
      rw [hZ]
      dsimp only
      ((repeat' (first
    | (show SQ _ _ _ _ _ _ _ _; first | apply sq_nil | (apply q_move; exact rfl; exact rfl) | (apply q_assign; exact rfl; exact rfl) | (apply q_eql; iterate 3 exact rfl) | (apply q_lss; iterate 3 exact rfl))
    | (show SQ _ _ _ _ _ _ _ _; (first | (apply q_ldap; exact rfl; exact rfl; exact (ty rfl); exact rfl; exact rfl; exact (by first | rfl | assumption | ((try simp only [Nat.zero_add]); refine List.getElem?_set_self ?_; (try simp only [List.length_set]); assumption)); exact rfl) | (apply q_store; exact rfl; exact rfl; exact (ty rfl); exact rfl; exact (by first | rfl | assumption | ((try simp only [Nat.zero_add]); refine List.getElem?_set_self ?_; (try simp only [List.length_set]); assumption)); iterate 3 exact rfl) | (apply q_buildn; exact rfl; exact (ty rfl); iterate 7 exact rfl) | (apply q_apo_s; (iterate 3 exact rfl); exact (ty rfl); exact rfl; exact rfl; exact (by first | omega | (simp; done) | (simp; omega)); exact (by first | exact List.take_of_length_le (by first | omega | (simp; done) | (simp; omega)) | rfl); exact (ty rfl); exact rfl; exact rfl; exact (by first | omega | (simp; done) | (simp; omega)); exact (by first | exact dt_full (by first | omega | (simp; done) | (simp; omega)) | assumption | rfl); exact rfl; exact (by first | omega | (simp; done) | (simp; omega)); exact (by first | omega | (simp; done) | (simp; omega)); exact (by first | assumption | exact rfl)) | (apply q_callC; (iterate 3 exact rfl); exact hp 1 _; (focus ((repeat (first | exact trivial | refine ⟨by first | exact rfl | assumption, ?_⟩)); done)); skip) | (apply q_callC; (iterate 3 exact rfl); exact hr 1 _; (focus ((repeat (first | exact trivial | refine ⟨by first | exact rfl | assumption, ?_⟩)); done)); skip) | (apply q_callC; (iterate 3 exact rfl); exact hq 1 _; (focus ((repeat (first | exact trivial | refine ⟨by first | exact rfl | assumption, ?_⟩)); done)); skip) | (apply q_callC; (iterate 3 exact rfl); exact a2 _; (focus ((repeat (first | exact trivial | refine ⟨by first | exact rfl | assumption, ?_⟩)); done)); skip)); (try simp only [put, rowsOf, plR, selE, ovr, setH, del, cellsA, splice, isV, spq, if_true, if_false]))
    | (show AW _ _ _ _ _ _ _ _; first | refine aw_region ?_ | (refine aw_seqk ?_; intro K hK) | refine aw_block ?_ | (apply aw_cond_t; exact rfl; exact (by assumption)) | (apply aw_cond_f; exact rfl; exact (by assumption)) | refine aw_ret ?_ | refine aw_exit ?_)
    | refine thn_n ?_
    | (refine hK _ _ _ ?_; clear hK K)
    | refine thn_e ?_
    | refine inb_same ?_
    | refine inb_n ?_
    | (clear hK K; refine hK _ _ _ ?_; clear hK K))); all_goals (repeat (clear hK K)))
      all_goals exact finc (fun z => if z = 0 then 2 else 6) (.r4 _ _ _ _ _ _ _ _ (.agg _ _ _ _ _ rfl (.inr ⟨_, _, _, _, _, rfl, rfl, rfl, rfl⟩) (ty rfl) rfl (Nat.le_of_ble_eq_true rfl)) (.tmp _ _ rfl) (.tmp _ _ rfl) (.tmp _ _ rfl)) (by simp [renA, renL, hdl]) (fun z hz => by simp at hz) ⟨rfl, by rw [List.map_append]; rfl, trivial⟩ rfl
    · have b3 : (q == 0) = false := by simpa using c3
      refine ⟨n, ls, zs, root, (d0 ++ [0]), h1.nb, h1.le, by (try simp); omega, fun k => ?_⟩
      refine RC.ofc [] 2 [.dsl 1 (byL bs)] [] (.tup [.agg [.v (.int .i64 n), .sl 0 0 ls.length], .dsl 1 (zs.map inL), .v (.int .i64 root), .sl 1 0 (d0 ++ [0]).length]) [(0, some ⟨56, 4, true, ls.map lnL⟩), (1, some ⟨2, 1, true, (d0 ++ [0]).map inL⟩)] Try.func40 Try.ntmps40 rfl (goFn_of Try.func40 rfl (by kernel_rfl)) rfl rfl rfl rfl rfl rfl rfl rfl (by simp_all) rfl ?_
      ((repeat' (first
    | (show SQ _ _ _ _ _ _ _ _; first | apply sq_nil | (apply q_move; exact rfl; exact rfl) | (apply q_assign; exact rfl; exact rfl) | (apply q_fieldAddr; exact rfl; exact rfl; exact (ty rfl); iterate 4 exact rfl) | (apply q_ext; iterate 3 exact rfl) | (apply q_ld1p; exact rfl; exact rfl; exact (ty rfl); exact rfl; exact rfl; exact (by first | rfl | assumption | ((try simp only [Nat.zero_add]); refine List.getElem?_set_self ?_; (try simp only [List.length_set]); assumption)); exact rfl))
    | (show SQ _ _ _ _ _ _ _ _; (first | (apply q_alloc; exact rfl; exact (ty rfl); exact rfl; exact rfl) | (apply q_store; exact rfl; exact rfl; exact (ty rfl); exact rfl; exact (by first | rfl | assumption | ((try simp only [Nat.zero_add]); refine List.getElem?_set_self ?_; (try simp only [List.length_set]); assumption)); iterate 3 exact rfl) | (apply q_build0; exact rfl; exact (ty rfl); exact rfl) | (apply q_callU; (iterate 3 exact rfl); exact FzL.of rfl; exact hM _) | (apply q_callC; (iterate 3 exact rfl); exact l00From_rc bs _; (focus ((repeat (first | exact trivial | refine ⟨by first | exact rfl | assumption, ?_⟩)); done)); skip) | (apply q_callC; (iterate 3 exact rfl); exact r1 _ 1; (focus ((repeat (first | exact trivial | refine ⟨by first | exact rfl | assumption, ?_⟩)); done)); skip)); (try simp only [put, rowsOf, plR, selE, ovr, setH, del, cellsA, splice, isV, spq, if_true, if_false]))
    | (show AW _ _ _ _ _ _ _ _; first | refine aw_region ?_ | (refine aw_seqk ?_; intro K hK) | refine aw_block ?_)
    | refine thn_n ?_
    | (refine hK _ _ _ ?_; clear hK K))); all_goals (repeat (clear hK K)))
      refine aw_loop (ρ := fun z => z) (ι := Nat) (fun i => ([(11, .v (.int .i64 (i : Int))), (10, .sl 4 0 i), (9, .v (.int .i64 (m : Int))), (8, .dsl 1 (zs.map inL)), (7, .ptr 3 0 0), (6, .ptr 1 0 0), (2, .ptr 0 0 0)],
        [(4, ⟨2, 1, true, (dmF s1 i).2.map inL⟩), (3, ⟨31, 2, false, [[.v (.int .i64 n), .sl 2 0 ls.length]]⟩), (1, ⟨133, 3, false, [srR (dmF s1 i).1]⟩), (2, ⟨56, 4, true, ls.map lnL⟩), (0, ⟨31, 2, false, [[.v (.int .i64 0), .v (.slice none 0 0)]]⟩)], 5))
        (fun i => i ≤ m) (fun i => m - i) 0 (Nat.zero_le _) ⟨by (repeat (refine ⟨by first | exact lk_i rfl rfl | exact lk_d rfl rfl | exact lk_r rfl rfl rfl | exact lk_s rfl rfl rfl rfl, ?_⟩)); exact trivial, by (repeat (refine ⟨by first | exact ⟨rfl, rfl, rfl⟩, ?_⟩)); exact trivial, by rfl, by exact pin_0⟩ ?_
      intro i hi
      obtain ⟨g1, g2⟩ := hD i
      have hml : ((dmF s1 i).2.map inL).length = i := by rw [List.length_map, g2]
      by_cases c9 : i < m
      · have b9 : decide ((i : Int) < (m : Int)) = true := by simpa using c9
        have hw : IntKind.i64.wrap ((i : Int) + 1) = ((i + 1 : Nat) : Int) := by rw [IntWalk.i64_in _ (by omega)]; omega
        have h2 := fun id => pick_rc id (dmF s1 i).1 90 (g1.mono (by omega)) (by omega)
        have e1 : (dmF s1 (i + 1)).1 = (pk (dmF s1 i).1 90).2 := rfl
        have e2 : (dmF s1 (i + 1)).2 = (dmF s1 i).2 ++ [(pk (dmF s1 i).1 90).1] := rfl
        ((repeat' (first
    | (show SQ _ _ _ _ _ _ _ _; first | apply sq_nil | (apply q_move; exact rfl; exact rfl) | (apply q_assign; exact rfl; exact rfl) | (apply q_add; iterate 3 exact rfl) | (apply q_lss; iterate 3 exact rfl))
    | (show SQ _ _ _ _ _ _ _ _; (first | (apply q_buildn; exact rfl; exact (ty rfl); iterate 7 exact rfl) | (apply q_apo_s; (iterate 3 exact rfl); exact (ty rfl); exact rfl; exact rfl; exact (by first | omega | (simp; done) | (simp; omega)); exact (by first | exact List.take_of_length_le (by first | omega | (simp; done) | (simp; omega)) | rfl); exact (ty rfl); exact rfl; exact rfl; exact (by first | omega | (simp; done) | (simp; omega)); exact (by first | exact dt_full (by first | omega | (simp; done) | (simp; omega)) | assumption | rfl); exact rfl; exact (by first | omega | (simp; done) | (simp; omega)); exact (by first | omega | (simp; done) | (simp; omega)); exact (by first | assumption | exact rfl)) | (apply q_callC; (iterate 3 exact rfl); exact h2 1 _; (focus ((repeat (first | exact trivial | refine ⟨by first | exact rfl | assumption, ?_⟩)); done)); skip)); (try simp only [put, rowsOf, plR, selE, ovr, setH, del, cellsA, splice, isV, spq, if_true, if_false]))
    | (show AW _ _ _ _ _ _ _ _; first | refine aw_region ?_ | (refine aw_seqk ?_; intro K hK) | refine aw_block ?_ | (apply aw_cond_t; exact rfl; exact (by assumption)) | refine aw_skip ?_)
    | refine thn_n ?_
    | (refine hK _ _ _ ?_; clear hK K)
    | refine inb_n ?_)); all_goals (repeat (clear hK K)))
        all_goals (refine ⟨i + 1, fun j => [0, 1, 2, 3, 6].getD j 0, c9, by omega, ?_⟩; (try dsimp only); rw [e1, e2, List.map_append, ← hw]; exact ⟨by (repeat (refine ⟨by first | exact lk_i rfl rfl | exact lk_d rfl rfl | exact lk_r rfl rfl rfl | exact lk_s rfl rfl rfl rfl, ?_⟩)); exact trivial, by (repeat (refine ⟨by first | exact ⟨rfl, rfl, rfl⟩, ?_⟩)); exact trivial, by rfl, by exact pin_0⟩)
      have b9 : decide ((i : Int) < (m : Int)) = false := by simpa using c9
      obtain rfl : i = m := by omega
      rw [hZ]
      dsimp only
      ((repeat' (first
    | (show SQ _ _ _ _ _ _ _ _; first | apply sq_nil | (apply q_move; exact rfl; exact rfl) | (apply q_assign; exact rfl; exact rfl) | (apply q_eql; iterate 3 exact rfl) | (apply q_lss; iterate 3 exact rfl))
    | (show SQ _ _ _ _ _ _ _ _; (first | (apply q_ldap; exact rfl; exact rfl; exact (ty rfl); exact rfl; exact rfl; exact (by first | rfl | assumption | ((try simp only [Nat.zero_add]); refine List.getElem?_set_self ?_; (try simp only [List.length_set]); assumption)); exact rfl) | (apply q_store; exact rfl; exact rfl; exact (ty rfl); exact rfl; exact (by first | rfl | assumption | ((try simp only [Nat.zero_add]); refine List.getElem?_set_self ?_; (try simp only [List.length_set]); assumption)); iterate 3 exact rfl) | (apply q_buildn; exact rfl; exact (ty rfl); iterate 7 exact rfl) | (apply q_apo_s; (iterate 3 exact rfl); exact (ty rfl); exact rfl; exact rfl; exact (by first | omega | (simp; done) | (simp; omega)); exact (by first | exact List.take_of_length_le (by first | omega | (simp; done) | (simp; omega)) | rfl); exact (ty rfl); exact rfl; exact rfl; exact (by first | omega | (simp; done) | (simp; omega)); exact (by first | exact dt_full (by first | omega | (simp; done) | (simp; omega)) | assumption | rfl); exact rfl; exact (by first | omega | (simp; done) | (simp; omega)); exact (by first | omega | (simp; done) | (simp; omega)); exact (by first | assumption | exact rfl)) | (apply q_callC; (iterate 3 exact rfl); exact hp 1 _; (focus ((repeat (first | exact trivial | refine ⟨by first | exact rfl | assumption, ?_⟩)); done)); skip) | (apply q_callC; (iterate 3 exact rfl); exact hr 1 _; (focus ((repeat (first | exact trivial | refine ⟨by first | exact rfl | assumption, ?_⟩)); done)); skip) | (apply q_callC; (iterate 3 exact rfl); exact hq 1 _; (focus ((repeat (first | exact trivial | refine ⟨by first | exact rfl | assumption, ?_⟩)); done)); skip)); (try simp only [put, rowsOf, plR, selE, ovr, setH, del, cellsA, splice, isV, spq, if_true, if_false]))
    | (show AW _ _ _ _ _ _ _ _; first | refine aw_region ?_ | (refine aw_seqk ?_; intro K hK) | refine aw_block ?_ | (apply aw_cond_t; exact rfl; exact (by assumption)) | (apply aw_cond_f; exact rfl; exact (by assumption)) | refine aw_ret ?_ | refine aw_exit ?_ | refine aw_skip ?_)
    | refine thn_n ?_
    | (refine hK _ _ _ ?_; clear hK K)
    | refine thn_e ?_
    | refine inb_same ?_
    | refine inb_n ?_
    | (clear hK K; refine hK _ _ _ ?_; clear hK K))); all_goals (repeat (clear hK K)))
      all_goals exact finc (fun z => if z = 0 then 2 else 6) (.r4 _ _ _ _ _ _ _ _ (.agg _ _ _ _ _ rfl (.inr ⟨_, _, _, _, _, rfl, rfl, rfl, rfl⟩) (ty rfl) rfl (Nat.le_of_ble_eq_true rfl)) (.tmp _ _ rfl) (.tmp _ _ rfl) (.tmp _ _ rfl)) (by simp [renA, renL, hdl]) (fun z hz => by simp at hz) ⟨rfl, by rw [List.map_append]; rfl, trivial⟩ rfl
  have b0 : (p == 0) = false := by simpa using c0
  by_cases c1 : p = 1
  · have b1 : (p == 1) = true := by simpa using c1
    have a1 := among_rc 1 5 s3 [-1, 1000000, 1000001] (by decide) (hok3.mono (by omega)) (by simp) (by simp)
    have hok4 := am_ok [-1, 1000000, 1000001] hok3
    generalize am [-1, 1000000, 1000001] s3 = A at *
    obtain ⟨u, s4⟩ := A
    dsimp only at a1 hok4
    simp only [nuR, List.map_cons, List.map_nil, List.length_cons, List.length_nil] at a1
    have hd0 : ∃ x, (d0.map inL)[0]? = some [x] := ⟨_, by rw [List.getElem?_map, List.getElem?_eq_getElem (show 0 < d0.length by omega)]; rfl⟩
    obtain ⟨x0, hd0⟩ := hd0
    have hds : (d0.map inL).set 0 [.v (.int .i64 u)] = (d0.set 0 u).map inL := by rw [List.map_set]; rfl
    have hdsl : (d0.set 0 u).length = m := by simp [hdl]
    have hr := fun id => pick_rc id s4 (m : Int) (hok4.mono (by omega)) (by omega)
    have hok5 := pk_ok (m : Int) hok4
    generalize pk s4 (m : Int) = P at *
    obtain ⟨root, s5⟩ := P
    dsimp only at hr hok5
    have hq := fun id => one_rc id s5 12 (hok5.mono (by omega)) (by omega)
    have hok6 := pk_ok 12 hok5
    generalize pk s5 12 = P at *
    obtain ⟨q, s6⟩ := P
    dsimp only at hq hok6
    by_cases c3 : q = 0
    · have b3 : (q == 0) = true := by simpa using c3
      have a2 := among_rc 1 6 s6 [-1, (m : Int)] (by decide) (hok6.mono (by omega)) (by simp) (by simp)
      generalize am [-1, (m : Int)] s6 = A at *
      obtain ⟨v, s7⟩ := A
      dsimp only at a2
      simp only [nuR, List.map_cons, List.map_nil, List.length_cons, List.length_nil] at a2
      refine ⟨n, ls, zs, v, (d0.set 0 u), h1.nb, h1.le, by (try simp); omega, fun k => ?_⟩
      refine RC.ofc [] 2 [.dsl 1 (byL bs)] [] (.tup [.agg [.v (.int .i64 n), .sl 0 0 ls.length], .dsl 1 (zs.map inL), .v (.int .i64 v), .sl 1 0 (d0.set 0 u).length]) [(0, some ⟨56, 4, true, ls.map lnL⟩), (1, some ⟨2, 1, true, (d0.set 0 u).map inL⟩)] Try.func40 Try.ntmps40 rfl (goFn_of Try.func40 rfl (by kernel_rfl)) rfl rfl rfl rfl rfl rfl rfl rfl (by simp_all) rfl ?_
      ((repeat' (first
    | (show SQ _ _ _ _ _ _ _ _; first | apply sq_nil | (apply q_move; exact rfl; exact rfl) | (apply q_assign; exact rfl; exact rfl) | (apply q_fieldAddr; exact rfl; exact rfl; exact (ty rfl); iterate 4 exact rfl) | (apply q_ext; iterate 3 exact rfl) | (apply q_ld1p; exact rfl; exact rfl; exact (ty rfl); exact rfl; exact rfl; exact (by first | rfl | assumption | ((try simp only [Nat.zero_add]); refine List.getElem?_set_self ?_; (try simp only [List.length_set]); assumption)); exact rfl))
    | (show SQ _ _ _ _ _ _ _ _; (first | (apply q_alloc; exact rfl; exact (ty rfl); exact rfl; exact rfl) | (apply q_store; exact rfl; exact rfl; exact (ty rfl); exact rfl; exact (by first | rfl | assumption | ((try simp only [Nat.zero_add]); refine List.getElem?_set_self ?_; (try simp only [List.length_set]); assumption)); iterate 3 exact rfl) | (apply q_build0; exact rfl; exact (ty rfl); exact rfl) | (apply q_callU; (iterate 3 exact rfl); exact FzL.of rfl; exact hM _) | (apply q_callC; (iterate 3 exact rfl); exact l00From_rc bs _; (focus ((repeat (first | exact trivial | refine ⟨by first | exact rfl | assumption, ?_⟩)); done)); skip) | (apply q_callC; (iterate 3 exact rfl); exact r1 _ 1; (focus ((repeat (first | exact trivial | refine ⟨by first | exact rfl | assumption, ?_⟩)); done)); skip)); (try simp only [put, rowsOf, plR, selE, ovr, setH, del, cellsA, splice, isV, spq, if_true, if_false]))
    | (show AW _ _ _ _ _ _ _ _; first | refine aw_region ?_ | (refine aw_seqk ?_; intro K hK) | refine aw_block ?_)
    | refine thn_n ?_
    | (refine hK _ _ _ ?_; clear hK K))); all_goals (repeat (clear hK K)))
      refine aw_loop (ρ := fun z => z) (ι := Nat) (fun i => ([(11, .v (.int .i64 (i : Int))), (10, .sl 4 0 i), (9, .v (.int .i64 (m : Int))), (8, .dsl 1 (zs.map inL)), (7, .ptr 3 0 0), (6, .ptr 1 0 0), (2, .ptr 0 0 0)],
        [(4, ⟨2, 1, true, (dmF s1 i).2.map inL⟩), (3, ⟨31, 2, false, [[.v (.int .i64 n), .sl 2 0 ls.length]]⟩), (1, ⟨133, 3, false, [srR (dmF s1 i).1]⟩), (2, ⟨56, 4, true, ls.map lnL⟩), (0, ⟨31, 2, false, [[.v (.int .i64 0), .v (.slice none 0 0)]]⟩)], 5))
        (fun i => i ≤ m) (fun i => m - i) 0 (Nat.zero_le _) ⟨by (repeat (refine ⟨by first | exact lk_i rfl rfl | exact lk_d rfl rfl | exact lk_r rfl rfl rfl | exact lk_s rfl rfl rfl rfl, ?_⟩)); exact trivial, by (repeat (refine ⟨by first | exact ⟨rfl, rfl, rfl⟩, ?_⟩)); exact trivial, by rfl, by exact pin_0⟩ ?_
      intro i hi
      obtain ⟨g1, g2⟩ := hD i
      have hml : ((dmF s1 i).2.map inL).length = i := by rw [List.length_map, g2]
      by_cases c9 : i < m
      · have b9 : decide ((i : Int) < (m : Int)) = true := by simpa using c9
        have hw : IntKind.i64.wrap ((i : Int) + 1) = ((i + 1 : Nat) : Int) := by rw [IntWalk.i64_in _ (by omega)]; omega
        have h2 := fun id => pick_rc id (dmF s1 i).1 90 (g1.mono (by omega)) (by omega)
        have e1 : (dmF s1 (i + 1)).1 = (pk (dmF s1 i).1 90).2 := rfl
        have e2 : (dmF s1 (i + 1)).2 = (dmF s1 i).2 ++ [(pk (dmF s1 i).1 90).1] := rfl
        ((repeat' (first
    | (show SQ _ _ _ _ _ _ _ _; first | apply sq_nil | (apply q_move; exact rfl; exact rfl) | (apply q_assign; exact rfl; exact rfl) | (apply q_add; iterate 3 exact rfl) | (apply q_lss; iterate 3 exact rfl))
    | (show SQ _ _ _ _ _ _ _ _; (first | (apply q_buildn; exact rfl; exact (ty rfl); iterate 7 exact rfl) | (apply q_apo_s; (iterate 3 exact rfl); exact (ty rfl); exact rfl; exact rfl; exact (by first | omega | (simp; done) | (simp; omega)); exact (by first | exact List.take_of_length_le (by first | omega | (simp; done) | (simp; omega)) | rfl); exact (ty rfl); exact rfl; exact rfl; exact (by first | omega | (simp; done) | (simp; omega)); exact (by first | exact dt_full (by first | omega | (simp; done) | (simp; omega)) | assumption | rfl); exact rfl; exact (by first | omega | (simp; done) | (simp; omega)); exact (by first | omega | (simp; done) | (simp; omega)); exact (by first | assumption | exact rfl)) | (apply q_callC; (iterate 3 exact rfl); exact h2 1 _; (focus ((repeat (first | exact trivial | refine ⟨by first | exact rfl | assumption, ?_⟩)); done)); skip)); (try simp only [put, rowsOf, plR, selE, ovr, setH, del, cellsA, splice, isV, spq, if_true, if_false]))
    | (show AW _ _ _ _ _ _ _ _; first | refine aw_region ?_ | (refine aw_seqk ?_; intro K hK) | refine aw_block ?_ | (apply aw_cond_t; exact rfl; exact (by assumption)) | refine aw_skip ?_)
    | refine thn_n ?_
    | (refine hK _ _ _ ?_; clear hK K)
    | refine inb_n ?_)); all_goals (repeat (clear hK K)))
        all_goals (refine ⟨i + 1, fun j => [0, 1, 2, 3, 6].getD j 0, c9, by omega, ?_⟩; (try dsimp only); rw [e1, e2, List.map_append, ← hw]; exact ⟨by (repeat (refine ⟨by first | exact lk_i rfl rfl | exact lk_d rfl rfl | exact lk_r rfl rfl rfl | exact lk_s rfl rfl rfl rfl, ?_⟩)); exact trivial, by (repeat (refine ⟨by first | exact ⟨rfl, rfl, rfl⟩, ?_⟩)); exact trivial, by rfl, by exact pin_0⟩)
      have b9 : decide ((i : Int) < (m : Int)) = false := by simpa using c9
      obtain rfl : i = m := by omega
      rw [hZ]
      dsimp only
      ((repeat' (first
    | (show SQ _ _ _ _ _ _ _ _; first | apply sq_nil | (apply q_move; exact rfl; exact rfl) | (apply q_assign; exact rfl; exact rfl) | (apply q_eql; iterate 3 exact rfl) | (apply q_lss; iterate 3 exact rfl) | (apply q_ixl; (iterate 3 exact rfl); exact (ty rfl); (iterate 3 exact rfl); exact (by first | omega | (simp; done) | (simp; omega)); exact (by first | omega | (simp; done) | (simp; omega))))
    | (show SQ _ _ _ _ _ _ _ _; (first | (apply q_ldap; exact rfl; exact rfl; exact (ty rfl); exact rfl; exact rfl; exact (by first | rfl | assumption | ((try simp only [Nat.zero_add]); refine List.getElem?_set_self ?_; (try simp only [List.length_set]); assumption)); exact rfl) | (apply q_store; exact rfl; exact rfl; exact (ty rfl); exact rfl; exact (by first | rfl | assumption | ((try simp only [Nat.zero_add]); refine List.getElem?_set_self ?_; (try simp only [List.length_set]); assumption)); iterate 3 exact rfl) | (apply q_buildn; exact rfl; exact (ty rfl); iterate 7 exact rfl) | (apply q_callC; (iterate 3 exact rfl); exact hp 1 _; (focus ((repeat (first | exact trivial | refine ⟨by first | exact rfl | assumption, ?_⟩)); done)); skip) | (apply q_callC; (iterate 3 exact rfl); exact hr 1 _; (focus ((repeat (first | exact trivial | refine ⟨by first | exact rfl | assumption, ?_⟩)); done)); skip) | (apply q_callC; (iterate 3 exact rfl); exact hq 1 _; (focus ((repeat (first | exact trivial | refine ⟨by first | exact rfl | assumption, ?_⟩)); done)); skip) | (apply q_callC; (iterate 3 exact rfl); exact a1 _; (focus ((repeat (first | exact trivial | refine ⟨by first | exact rfl | assumption, ?_⟩)); done)); skip) | (apply q_callC; (iterate 3 exact rfl); exact a2 _; (focus ((repeat (first | exact trivial | refine ⟨by first | exact rfl | assumption, ?_⟩)); done)); skip)); (try simp only [put, rowsOf, plR, selE, ovr, setH, del, cellsA, splice, isV, spq, if_true, if_false]))
    | (show AW _ _ _ _ _ _ _ _; first | refine aw_region ?_ | (refine aw_seqk ?_; intro K hK) | refine aw_block ?_ | (apply aw_cond_t; exact rfl; exact (by assumption)) | (apply aw_cond_f; exact rfl; exact (by assumption)) | refine aw_ret ?_ | refine aw_exit ?_)
    | refine thn_n ?_
    | (refine hK _ _ _ ?_; clear hK K)
    | refine thn_e ?_
    | refine inb_same ?_
    | refine inb_n ?_
    | (clear hK K; refine hK _ _ _ ?_; clear hK K))); all_goals (repeat (clear hK K)))
      all_goals exact finc (fun z => if z = 0 then 2 else 4) (.r4 _ _ _ _ _ _ _ _ (.agg _ _ _ _ _ rfl (.inr ⟨_, _, _, _, _, rfl, rfl, rfl, rfl⟩) (ty rfl) rfl (Nat.le_of_ble_eq_true rfl)) (.tmp _ _ rfl) (.tmp _ _ rfl) (.tmp _ _ rfl)) (by simp [renA, renL, hdl]) (fun z hz => by simp at hz) ⟨rfl, by rw [← hds]; rfl, trivial⟩ rfl
    · have b3 : (q == 0) = false := by simpa using c3
      refine ⟨n, ls, zs, root, (d0.set 0 u), h1.nb, h1.le, by (try simp); omega, fun k => ?_⟩
      refine RC.ofc [] 2 [.dsl 1 (byL bs)] [] (.tup [.agg [.v (.int .i64 n), .sl 0 0 ls.length], .dsl 1 (zs.map inL), .v (.int .i64 root), .sl 1 0 (d0.set 0 u).length]) [(0, some ⟨56, 4, true, ls.map lnL⟩), (1, some ⟨2, 1, true, (d0.set 0 u).map inL⟩)] Try.func40 Try.ntmps40 rfl (goFn_of Try.func40 rfl (by kernel_rfl)) rfl rfl rfl rfl rfl rfl rfl rfl (by simp_all) rfl ?_
      ((repeat' (first
    | (show SQ _ _ _ _ _ _ _ _; first | apply sq_nil | (apply q_move; exact rfl; exact rfl) | (apply q_assign; exact rfl; exact rfl) | (apply q_fieldAddr; exact rfl; exact rfl; exact (ty rfl); iterate 4 exact rfl) | (apply q_ext; iterate 3 exact rfl) | (apply q_ld1p; exact rfl; exact rfl; exact (ty rfl); exact rfl; exact rfl; exact (by first | rfl | assumption | ((try simp only [Nat.zero_add]); refine List.getElem?_set_self ?_; (try simp only [List.length_set]); assumption)); exact rfl))
    | (show SQ _ _ _ _ _ _ _ _; (first | (apply q_alloc; exact rfl; exact (ty rfl); exact rfl; exact rfl) | (apply q_store; exact rfl; exact rfl; exact (ty rfl); exact rfl; exact (by first | rfl | assumption | ((try simp only [Nat.zero_add]); refine List.getElem?_set_self ?_; (try simp only [List.length_set]); assumption)); iterate 3 exact rfl) | (apply q_build0; exact rfl; exact (ty rfl); exact rfl) | (apply q_callU; (iterate 3 exact rfl); exact FzL.of rfl; exact hM _) | (apply q_callC; (iterate 3 exact rfl); exact l00From_rc bs _; (focus ((repeat (first | exact trivial | refine ⟨by first | exact rfl | assumption, ?_⟩)); done)); skip) | (apply q_callC; (iterate 3 exact rfl); exact r1 _ 1; (focus ((repeat (first | exact trivial | refine ⟨by first | exact rfl | assumption, ?_⟩)); done)); skip)); (try simp only [put, rowsOf, plR, selE, ovr, setH, del, cellsA, splice, isV, spq, if_true, if_false]))
    | (show AW _ _ _ _ _ _ _ _; first | refine aw_region ?_ | (refine aw_seqk ?_; intro K hK) | refine aw_block ?_)
    | refine thn_n ?_
    | (refine hK _ _ _ ?_; clear hK K))); all_goals (repeat (clear hK K)))
      refine aw_loop (ρ := fun z => z) (ι := Nat) (fun i => ([(11, .v (.int .i64 (i : Int))), (10, .sl 4 0 i), (9, .v (.int .i64 (m : Int))), (8, .dsl 1 (zs.map inL)), (7, .ptr 3 0 0), (6, .ptr 1 0 0), (2, .ptr 0 0 0)],
        [(4, ⟨2, 1, true, (dmF s1 i).2.map inL⟩), (3, ⟨31, 2, false, [[.v (.int .i64 n), .sl 2 0 ls.length]]⟩), (1, ⟨133, 3, false, [srR (dmF s1 i).1]⟩), (2, ⟨56, 4, true, ls.map lnL⟩), (0, ⟨31, 2, false, [[.v (.int .i64 0), .v (.slice none 0 0)]]⟩)], 5))
        (fun i => i ≤ m) (fun i => m - i) 0 (Nat.zero_le _) ⟨by (repeat (refine ⟨by first | exact lk_i rfl rfl | exact lk_d rfl rfl | exact lk_r rfl rfl rfl | exact lk_s rfl rfl rfl rfl, ?_⟩)); exact trivial, by (repeat (refine ⟨by first | exact ⟨rfl, rfl, rfl⟩, ?_⟩)); exact trivial, by rfl, by exact pin_0⟩ ?_
      intro i hi
      obtain ⟨g1, g2⟩ := hD i
      have hml : ((dmF s1 i).2.map inL).length = i := by rw [List.length_map, g2]
      by_cases c9 : i < m
      · have b9 : decide ((i : Int) < (m : Int)) = true := by simpa using c9
        have hw : IntKind.i64.wrap ((i : Int) + 1) = ((i + 1 : Nat) : Int) := by rw [IntWalk.i64_in _ (by omega)]; omega
        have h2 := fun id => pick_rc id (dmF s1 i).1 90 (g1.mono (by omega)) (by omega)
        have e1 : (dmF s1 (i + 1)).1 = (pk (dmF s1 i).1 90).2 := rfl
        have e2 : (dmF s1 (i + 1)).2 = (dmF s1 i).2 ++ [(pk (dmF s1 i).1 90).1] := rfl
        ((repeat' (first
    | (show SQ _ _ _ _ _ _ _ _; first | apply sq_nil | (apply q_move; exact rfl; exact rfl) | (apply q_assign; exact rfl; exact rfl) | (apply q_add; iterate 3 exact rfl) | (apply q_lss; iterate 3 exact rfl))
    | (show SQ _ _ _ _ _ _ _ _; (first | (apply q_buildn; exact rfl; exact (ty rfl); iterate 7 exact rfl) | (apply q_apo_s; (iterate 3 exact rfl); exact (ty rfl); exact rfl; exact rfl; exact (by first | omega | (simp; done) | (simp; omega)); exact (by first | exact List.take_of_length_le (by first | omega | (simp; done) | (simp; omega)) | rfl); exact (ty rfl); exact rfl; exact rfl; exact (by first | omega | (simp; done) | (simp; omega)); exact (by first | exact dt_full (by first | omega | (simp; done) | (simp; omega)) | assumption | rfl); exact rfl; exact (by first | omega | (simp; done) | (simp; omega)); exact (by first | omega | (simp; done) | (simp; omega)); exact (by first | assumption | exact rfl)) | (apply q_callC; (iterate 3 exact rfl); exact h2 1 _; (focus ((repeat (first | exact trivial | refine ⟨by first | exact rfl | assumption, ?_⟩)); done)); skip)); (try simp only [put, rowsOf, plR, selE, ovr, setH, del, cellsA, splice, isV, spq, if_true, if_false]))
    | (show AW _ _ _ _ _ _ _ _; first | refine aw_region ?_ | (refine aw_seqk ?_; intro K hK) | refine aw_block ?_ | (apply aw_cond_t; exact rfl; exact (by assumption)) | refine aw_skip ?_)
    | refine thn_n ?_
    | (refine hK _ _ _ ?_; clear hK K)
    | refine inb_n ?_)); all_goals (repeat (clear hK K)))
        all_goals (refine ⟨i + 1, fun j => [0, 1, 2, 3, 6].getD j 0, c9, by omega, ?_⟩; (try dsimp only); rw [e1, e2, List.map_append, ← hw]; exact ⟨by (repeat (refine ⟨by first | exact lk_i rfl rfl | exact lk_d rfl rfl | exact lk_r rfl rfl rfl | exact lk_s rfl rfl rfl rfl, ?_⟩)); exact trivial, by (repeat (refine ⟨by first | exact ⟨rfl, rfl, rfl⟩, ?_⟩)); exact trivial, by rfl, by exact pin_0⟩)
      have b9 : decide ((i : Int) < (m : Int)) = false := by simpa using c9
      obtain rfl : i = m := by omega
      rw [hZ]
      dsimp only
      ((repeat' (first
    | (show SQ _ _ _ _ _ _ _ _; first | apply sq_nil | (apply q_move; exact rfl; exact rfl) | (apply q_assign; exact rfl; exact rfl) | (apply q_eql; iterate 3 exact rfl) | (apply q_lss; iterate 3 exact rfl) | (apply q_ixl; (iterate 3 exact rfl); exact (ty rfl); (iterate 3 exact rfl); exact (by first | omega | (simp; done) | (simp; omega)); exact (by first | omega | (simp; done) | (simp; omega))))
    | (show SQ _ _ _ _ _ _ _ _; (first | (apply q_ldap; exact rfl; exact rfl; exact (ty rfl); exact rfl; exact rfl; exact (by first | rfl | assumption | ((try simp only [Nat.zero_add]); refine List.getElem?_set_self ?_; (try simp only [List.length_set]); assumption)); exact rfl) | (apply q_store; exact rfl; exact rfl; exact (ty rfl); exact rfl; exact (by first | rfl | assumption | ((try simp only [Nat.zero_add]); refine List.getElem?_set_self ?_; (try simp only [List.length_set]); assumption)); iterate 3 exact rfl) | (apply q_buildn; exact rfl; exact (ty rfl); iterate 7 exact rfl) | (apply q_callC; (iterate 3 exact rfl); exact hp 1 _; (focus ((repeat (first | exact trivial | refine ⟨by first | exact rfl | assumption, ?_⟩)); done)); skip) | (apply q_callC; (iterate 3 exact rfl); exact hr 1 _; (focus ((repeat (first | exact trivial | refine ⟨by first | exact rfl | assumption, ?_⟩)); done)); skip) | (apply q_callC; (iterate 3 exact rfl); exact hq 1 _; (focus ((repeat (first | exact trivial | refine ⟨by first | exact rfl | assumption, ?_⟩)); done)); skip) | (apply q_callC; (iterate 3 exact rfl); exact a1 _; (focus ((repeat (first | exact trivial | refine ⟨by first | exact rfl | assumption, ?_⟩)); done)); skip)); (try simp only [put, rowsOf, plR, selE, ovr, setH, del, cellsA, splice, isV, spq, if_true, if_false]))
    | (show AW _ _ _ _ _ _ _ _; first | refine aw_region ?_ | (refine aw_seqk ?_; intro K hK) | refine aw_block ?_ | (apply aw_cond_t; exact rfl; exact (by assumption)) | (apply aw_cond_f; exact rfl; exact (by assumption)) | refine aw_ret ?_ | refine aw_exit ?_ | refine aw_skip ?_)
    | refine thn_n ?_
    | (refine hK _ _ _ ?_; clear hK K)
    | refine thn_e ?_
    | refine inb_same ?_
    | refine inb_n ?_
    | (clear hK K; refine hK _ _ _ ?_; clear hK K))); all_goals (repeat (clear hK K)))
      all_goals exact finc (fun z => if z = 0 then 2 else 4) (.r4 _ _ _ _ _ _ _ _ (.agg _ _ _ _ _ rfl (.inr ⟨_, _, _, _, _, rfl, rfl, rfl, rfl⟩) (ty rfl) rfl (Nat.le_of_ble_eq_true rfl)) (.tmp _ _ rfl) (.tmp _ _ rfl) (.tmp _ _ rfl)) (by simp [renA, renL, hdl]) (fun z hz => by simp at hz) ⟨rfl, by rw [← hds]; rfl, trivial⟩ rfl
  have b1 : (p == 1) = false := by simpa using c1
  have hr := fun id => pick_rc id s3 (m : Int) (hok3.mono (by omega)) (by omega)
  have hok5 := pk_ok (m : Int) hok3
  generalize pk s3 (m : Int) = P at *
  obtain ⟨root, s5⟩ := P
  dsimp only at hr hok5
  have hq := fun id => one_rc id s5 12 (hok5.mono (by omega)) (by omega)
  have hok6 := pk_ok 12 hok5
  generalize pk s5 12 = P at *
  obtain ⟨q, s6⟩ := P
  dsimp only at hq hok6
  by_cases c3 : q = 0
  · have b3 : (q == 0) = true := by simpa using c3
    have a2 := among_rc 1 5 s6 [-1, (m : Int)] (by decide) (hok6.mono (by omega)) (by simp) (by simp)
    generalize am [-1, (m : Int)] s6 = A at *
    obtain ⟨v, s7⟩ := A
    dsimp only at a2
    simp only [nuR, List.map_cons, List.map_nil, List.length_cons, List.length_nil] at a2
    refine ⟨n, ls, zs, v, d0, h1.nb, h1.le, by (try simp); omega, fun k => ?_⟩
    refine RC.ofc [] 2 [.dsl 1 (byL bs)] [] (.tup [.agg [.v (.int .i64 n), .sl 0 0 ls.length], .dsl 1 (zs.map inL), .v (.int .i64 v), .sl 1 0 d0.length]) [(0, some ⟨56, 4, true, ls.map lnL⟩), (1, some ⟨2, 1, true, d0.map inL⟩)] Try.func40 Try.ntmps40 rfl (goFn_of Try.func40 rfl (by kernel_rfl)) rfl rfl rfl rfl rfl rfl rfl rfl (by simp_all) rfl ?_
    ((repeat' (first
    | (show SQ _ _ _ _ _ _ _ _; first | apply sq_nil | (apply q_move; exact rfl; exact rfl) | (apply q_assign; exact rfl; exact rfl) | (apply q_fieldAddr; exact rfl; exact rfl; exact (ty rfl); iterate 4 exact rfl) | (apply q_ext; iterate 3 exact rfl) | (apply q_ld1p; exact rfl; exact rfl; exact (ty rfl); exact rfl; exact rfl; exact (by first | rfl | assumption | ((try simp only [Nat.zero_add]); refine List.getElem?_set_self ?_; (try simp only [List.length_set]); assumption)); exact rfl))
    | (show SQ _ _ _ _ _ _ _ _; (first | (apply q_alloc; exact rfl; exact (ty rfl); exact rfl; exact rfl) | (apply q_store; exact rfl; exact rfl; exact (ty rfl); exact rfl; exact (by first | rfl | assumption | ((try simp only [Nat.zero_add]); refine List.getElem?_set_self ?_; (try simp only [List.length_set]); assumption)); iterate 3 exact rfl) | (apply q_build0; exact rfl; exact (ty rfl); exact rfl) | (apply q_callU; (iterate 3 exact rfl); exact FzL.of rfl; exact hM _) | (apply q_callC; (iterate 3 exact rfl); exact l00From_rc bs _; (focus ((repeat (first | exact trivial | refine ⟨by first | exact rfl | assumption, ?_⟩)); done)); skip) | (apply q_callC; (iterate 3 exact rfl); exact r1 _ 1; (focus ((repeat (first | exact trivial | refine ⟨by first | exact rfl | assumption, ?_⟩)); done)); skip)); (try simp only [put, rowsOf, plR, selE, ovr, setH, del, cellsA, splice, isV, spq, if_true, if_false]))
    | (show AW _ _ _ _ _ _ _ _; first | refine aw_region ?_ | (refine aw_seqk ?_; intro K hK) | refine aw_block ?_)
    | refine thn_n ?_
    | (refine hK _ _ _ ?_; clear hK K))); all_goals (repeat (clear hK K)))
    refine aw_loop (ρ := fun z => z) (ι := Nat) (fun i => ([(11, .v (.int .i64 (i : Int))), (10, .sl 4 0 i), (9, .v (.int .i64 (m : Int))), (8, .dsl 1 (zs.map inL)), (7, .ptr 3 0 0), (6, .ptr 1 0 0), (2, .ptr 0 0 0)],
      [(4, ⟨2, 1, true, (dmF s1 i).2.map inL⟩), (3, ⟨31, 2, false, [[.v (.int .i64 n), .sl 2 0 ls.length]]⟩), (1, ⟨133, 3, false, [srR (dmF s1 i).1]⟩), (2, ⟨56, 4, true, ls.map lnL⟩), (0, ⟨31, 2, false, [[.v (.int .i64 0), .v (.slice none 0 0)]]⟩)], 5))
      (fun i => i ≤ m) (fun i => m - i) 0 (Nat.zero_le _) ⟨by (repeat (refine ⟨by first | exact lk_i rfl rfl | exact lk_d rfl rfl | exact lk_r rfl rfl rfl | exact lk_s rfl rfl rfl rfl, ?_⟩)); exact trivial, by (repeat (refine ⟨by first | exact ⟨rfl, rfl, rfl⟩, ?_⟩)); exact trivial, by rfl, by exact pin_0⟩ ?_
    intro i hi
    obtain ⟨g1, g2⟩ := hD i
    have hml : ((dmF s1 i).2.map inL).length = i := by rw [List.length_map, g2]
    by_cases c9 : i < m
    · have b9 : decide ((i : Int) < (m : Int)) = true := by simpa using c9
      have hw : IntKind.i64.wrap ((i : Int) + 1) = ((i + 1 : Nat) : Int) := by rw [IntWalk.i64_in _ (by omega)]; omega
      have h2 := fun id => pick_rc id (dmF s1 i).1 90 (g1.mono (by omega)) (by omega)
      have e1 : (dmF s1 (i + 1)).1 = (pk (dmF s1 i).1 90).2 := rfl
      have e2 : (dmF s1 (i + 1)).2 = (dmF s1 i).2 ++ [(pk (dmF s1 i).1 90).1] := rfl
      ((repeat' (first
    | (show SQ _ _ _ _ _ _ _ _; first | apply sq_nil | (apply q_move; exact rfl; exact rfl) | (apply q_assign; exact rfl; exact rfl) | (apply q_add; iterate 3 exact rfl) | (apply q_lss; iterate 3 exact rfl))
    | (show SQ _ _ _ _ _ _ _ _; (first | (apply q_buildn; exact rfl; exact (ty rfl); iterate 7 exact rfl) | (apply q_apo_s; (iterate 3 exact rfl); exact (ty rfl); exact rfl; exact rfl; exact (by first | omega | (simp; done) | (simp; omega)); exact (by first | exact List.take_of_length_le (by first | omega | (simp; done) | (simp; omega)) | rfl); exact (ty rfl); exact rfl; exact rfl; exact (by first | omega | (simp; done) | (simp; omega)); exact (by first | exact dt_full (by first | omega | (simp; done) | (simp; omega)) | assumption | rfl); exact rfl; exact (by first | omega | (simp; done) | (simp; omega)); exact (by first | omega | (simp; done) | (simp; omega)); exact (by first | assumption | exact rfl)) | (apply q_callC; (iterate 3 exact rfl); exact h2 1 _; (focus ((repeat (first | exact trivial | refine ⟨by first | exact rfl | assumption, ?_⟩)); done)); skip)); (try simp only [put, rowsOf, plR, selE, ovr, setH, del, cellsA, splice, isV, spq, if_true, if_false]))
    | (show AW _ _ _ _ _ _ _ _; first | refine aw_region ?_ | (refine aw_seqk ?_; intro K hK) | refine aw_block ?_ | (apply aw_cond_t; exact rfl; exact (by assumption)) | refine aw_skip ?_)
    | refine thn_n ?_
    | (refine hK _ _ _ ?_; clear hK K)
    | refine inb_n ?_)); all_goals (repeat (clear hK K)))
      all_goals (refine ⟨i + 1, fun j => [0, 1, 2, 3, 6].getD j 0, c9, by omega, ?_⟩; (try dsimp only); rw [e1, e2, List.map_append, ← hw]; exact ⟨by (repeat (refine ⟨by first | exact lk_i rfl rfl | exact lk_d rfl rfl | exact lk_r rfl rfl rfl | exact lk_s rfl rfl rfl rfl, ?_⟩)); exact trivial, by (repeat (refine ⟨by first | exact ⟨rfl, rfl, rfl⟩, ?_⟩)); exact trivial, by rfl, by exact pin_0⟩)
    have b9 : decide ((i : Int) < (m : Int)) = false := by simpa using c9
    obtain rfl : i = m := by omega
    rw [hZ]
    dsimp only
    ((repeat' (first
    | (show SQ _ _ _ _ _ _ _ _; first | apply sq_nil | (apply q_move; exact rfl; exact rfl) | (apply q_assign; exact rfl; exact rfl) | (apply q_eql; iterate 3 exact rfl) | (apply q_lss; iterate 3 exact rfl))
    | (show SQ _ _ _ _ _ _ _ _; (first | (apply q_ldap; exact rfl; exact rfl; exact (ty rfl); exact rfl; exact rfl; exact (by first | rfl | assumption | ((try simp only [Nat.zero_add]); refine List.getElem?_set_self ?_; (try simp only [List.length_set]); assumption)); exact rfl) | (apply q_store; exact rfl; exact rfl; exact (ty rfl); exact rfl; exact (by first | rfl | assumption | ((try simp only [Nat.zero_add]); refine List.getElem?_set_self ?_; (try simp only [List.length_set]); assumption)); iterate 3 exact rfl) | (apply q_buildn; exact rfl; exact (ty rfl); iterate 7 exact rfl) | (apply q_callC; (iterate 3 exact rfl); exact hp 1 _; (focus ((repeat (first | exact trivial | refine ⟨by first | exact rfl | assumption, ?_⟩)); done)); skip) | (apply q_callC; (iterate 3 exact rfl); exact hr 1 _; (focus ((repeat (first | exact trivial | refine ⟨by first | exact rfl | assumption, ?_⟩)); done)); skip) | (apply q_callC; (iterate 3 exact rfl); exact hq 1 _; (focus ((repeat (first | exact trivial | refine ⟨by first | exact rfl | assumption, ?_⟩)); done)); skip) | (apply q_callC; (iterate 3 exact rfl); exact a2 _; (focus ((repeat (first | exact trivial | refine ⟨by first | exact rfl | assumption, ?_⟩)); done)); skip)); (try simp only [put, rowsOf, plR, selE, ovr, setH, del, cellsA, splice, isV, spq, if_true, if_false]))
    | (show AW _ _ _ _ _ _ _ _; first | refine aw_region ?_ | (refine aw_seqk ?_; intro K hK) | refine aw_block ?_ | (apply aw_cond_t; exact rfl; exact (by assumption)) | (apply aw_cond_f; exact rfl; exact (by assumption)) | refine aw_ret ?_ | refine aw_exit ?_ | refine aw_skip ?_)
    | refine thn_n ?_
    | (refine hK _ _ _ ?_; clear hK K)
    | refine thn_e ?_
    | refine inb_same ?_
    | refine inb_n ?_
    | (clear hK K; refine hK _ _ _ ?_; clear hK K))); all_goals (repeat (clear hK K)))
    all_goals exact finc (fun z => if z = 0 then 2 else 4) (.r4 _ _ _ _ _ _ _ _ (.agg _ _ _ _ _ rfl (.inr ⟨_, _, _, _, _, rfl, rfl, rfl, rfl⟩) (ty rfl) rfl (Nat.le_of_ble_eq_true rfl)) (.tmp _ _ rfl) (.tmp _ _ rfl) (.tmp _ _ rfl)) (by simp [renA, renL, hdl]) (fun z hz => by simp at hz) ⟨rfl, by rfl, trivial⟩ rfl
  · have b3 : (q == 0) = false := by simpa using c3
    refine ⟨n, ls, zs, root, d0, h1.nb, h1.le, by (try simp); omega, fun k => ?_⟩
    refine RC.ofc [] 2 [.dsl 1 (byL bs)] [] (.tup [.agg [.v (.int .i64 n), .sl 0 0 ls.length], .dsl 1 (zs.map inL), .v (.int .i64 root), .sl 1 0 d0.length]) [(0, some ⟨56, 4, true, ls.map lnL⟩), (1, some ⟨2, 1, true, d0.map inL⟩)] Try.func40 Try.ntmps40 rfl (goFn_of Try.func40 rfl (by kernel_rfl)) rfl rfl rfl rfl rfl rfl rfl rfl (by simp_all) rfl ?_
    ((repeat' (first
    | (show SQ _ _ _ _ _ _ _ _; first | apply sq_nil | (apply q_move; exact rfl; exact rfl) | (apply q_assign; exact rfl; exact rfl) | (apply q_fieldAddr; exact rfl; exact rfl; exact (ty rfl); iterate 4 exact rfl) | (apply q_ext; iterate 3 exact rfl) | (apply q_ld1p; exact rfl; exact rfl; exact (ty rfl); exact rfl; exact rfl; exact (by first | rfl | assumption | ((try simp only [Nat.zero_add]); refine List.getElem?_set_self ?_; (try simp only [List.length_set]); assumption)); exact rfl))
    | (show SQ _ _ _ _ _ _ _ _; (first | (apply q_alloc; exact rfl; exact (ty rfl); exact rfl; exact rfl) | (apply q_store; exact rfl; exact rfl; exact (ty rfl); exact rfl; exact (by first | rfl | assumption | ((try simp only [Nat.zero_add]); refine List.getElem?_set_self ?_; (try simp only [List.length_set]); assumption)); iterate 3 exact rfl) | (apply q_build0; exact rfl; exact (ty rfl); exact rfl) | (apply q_callU; (iterate 3 exact rfl); exact FzL.of rfl; exact hM _) | (apply q_callC; (iterate 3 exact rfl); exact l00From_rc bs _; (focus ((repeat (first | exact trivial | refine ⟨by first | exact rfl | assumption, ?_⟩)); done)); skip) | (apply q_callC; (iterate 3 exact rfl); exact r1 _ 1; (focus ((repeat (first | exact trivial | refine ⟨by first | exact rfl | assumption, ?_⟩)); done)); skip)); (try simp only [put, rowsOf, plR, selE, ovr, setH, del, cellsA, splice, isV, spq, if_true, if_false]))
    | (show AW _ _ _ _ _ _ _ _; first | refine aw_region ?_ | (refine aw_seqk ?_; intro K hK) | refine aw_block ?_)
    | refine thn_n ?_
    | (refine hK _ _ _ ?_; clear hK K))); all_goals (repeat (clear hK K)))
    refine aw_loop (ρ := fun z => z) (ι := Nat) (fun i => ([(11, .v (.int .i64 (i : Int))), (10, .sl 4 0 i), (9, .v (.int .i64 (m : Int))), (8, .dsl 1 (zs.map inL)), (7, .ptr 3 0 0), (6, .ptr 1 0 0), (2, .ptr 0 0 0)],
      [(4, ⟨2, 1, true, (dmF s1 i).2.map inL⟩), (3, ⟨31, 2, false, [[.v (.int .i64 n), .sl 2 0 ls.length]]⟩), (1, ⟨133, 3, false, [srR (dmF s1 i).1]⟩), (2, ⟨56, 4, true, ls.map lnL⟩), (0, ⟨31, 2, false, [[.v (.int .i64 0), .v (.slice none 0 0)]]⟩)], 5))
      (fun i => i ≤ m) (fun i => m - i) 0 (Nat.zero_le _) ⟨by (repeat (refine ⟨by first | exact lk_i rfl rfl | exact lk_d rfl rfl | exact lk_r rfl rfl rfl | exact lk_s rfl rfl rfl rfl, ?_⟩)); exact trivial, by (repeat (refine ⟨by first | exact ⟨rfl, rfl, rfl⟩, ?_⟩)); exact trivial, by rfl, by exact pin_0⟩ ?_
    intro i hi
    obtain ⟨g1, g2⟩ := hD i
    have hml : ((dmF s1 i).2.map inL).length = i := by rw [List.length_map, g2]
    by_cases c9 : i < m
    · have b9 : decide ((i : Int) < (m : Int)) = true := by simpa using c9
      have hw : IntKind.i64.wrap ((i : Int) + 1) = ((i + 1 : Nat) : Int) := by rw [IntWalk.i64_in _ (by omega)]; omega
      have h2 := fun id => pick_rc id (dmF s1 i).1 90 (g1.mono (by omega)) (by omega)
      have e1 : (dmF s1 (i + 1)).1 = (pk (dmF s1 i).1 90).2 := rfl
      have e2 : (dmF s1 (i + 1)).2 = (dmF s1 i).2 ++ [(pk (dmF s1 i).1 90).1] := rfl
      ((repeat' (first
    | (show SQ _ _ _ _ _ _ _ _; first | apply sq_nil | (apply q_move; exact rfl; exact rfl) | (apply q_assign; exact rfl; exact rfl) | (apply q_add; iterate 3 exact rfl) | (apply q_lss; iterate 3 exact rfl))
    | (show SQ _ _ _ _ _ _ _ _; (first | (apply q_buildn; exact rfl; exact (ty rfl); iterate 7 exact rfl) | (apply q_apo_s; (iterate 3 exact rfl); exact (ty rfl); exact rfl; exact rfl; exact (by first | omega | (simp; done) | (simp; omega)); exact (by first | exact List.take_of_length_le (by first | omega | (simp; done) | (simp; omega)) | rfl); exact (ty rfl); exact rfl; exact rfl; exact (by first | omega | (simp; done) | (simp; omega)); exact (by first | exact dt_full (by first | omega | (simp; done) | (simp; omega)) | assumption | rfl); exact rfl; exact (by first | omega | (simp; done) | (simp; omega)); exact (by first | omega | (simp; done) | (simp; omega)); exact (by first | assumption | exact rfl)) | (apply q_callC; (iterate 3 exact rfl); exact h2 1 _; (focus ((repeat (first | exact trivial | refine ⟨by first | exact rfl | assumption, ?_⟩)); done)); skip)); (try simp only [put, rowsOf, plR, selE, ovr, setH, del, cellsA, splice, isV, spq, if_true, if_false]))
    | (show AW _ _ _ _ _ _ _ _; first | refine aw_region ?_ | (refine aw_seqk ?_; intro K hK) | refine aw_block ?_ | (apply aw_cond_t; exact rfl; exact (by assumption)) | refine aw_skip ?_)
    | refine thn_n ?_
    | (refine hK _ _ _ ?_; clear hK K)
    | refine inb_n ?_)); all_goals (repeat (clear hK K)))
      all_goals (refine ⟨i + 1, fun j => [0, 1, 2, 3, 6].getD j 0, c9, by omega, ?_⟩; (try dsimp only); rw [e1, e2, List.map_append, ← hw]; exact ⟨by (repeat (refine ⟨by first | exact lk_i rfl rfl | exact lk_d rfl rfl | exact lk_r rfl rfl rfl | exact lk_s rfl rfl rfl rfl, ?_⟩)); exact trivial, by (repeat (refine ⟨by first | exact ⟨rfl, rfl, rfl⟩, ?_⟩)); exact trivial, by rfl, by exact pin_0⟩)
    have b9 : decide ((i : Int) < (m : Int)) = false := by simpa using c9
    obtain rfl : i = m := by omega
    rw [hZ]
    dsimp only
    ((repeat' (first
    | (show SQ _ _ _ _ _ _ _ _; first | apply sq_nil | (apply q_move; exact rfl; exact rfl) | (apply q_assign; exact rfl; exact rfl) | (apply q_eql; iterate 3 exact rfl) | (apply q_lss; iterate 3 exact rfl))
    | (show SQ _ _ _ _ _ _ _ _; (first | (apply q_ldap; exact rfl; exact rfl; exact (ty rfl); exact rfl; exact rfl; exact (by first | rfl | assumption | ((try simp only [Nat.zero_add]); refine List.getElem?_set_self ?_; (try simp only [List.length_set]); assumption)); exact rfl) | (apply q_store; exact rfl; exact rfl; exact (ty rfl); exact rfl; exact (by first | rfl | assumption | ((try simp only [Nat.zero_add]); refine List.getElem?_set_self ?_; (try simp only [List.length_set]); assumption)); iterate 3 exact rfl) | (apply q_callC; (iterate 3 exact rfl); exact hp 1 _; (focus ((repeat (first | exact trivial | refine ⟨by first | exact rfl | assumption, ?_⟩)); done)); skip) | (apply q_callC; (iterate 3 exact rfl); exact hr 1 _; (focus ((repeat (first | exact trivial | refine ⟨by first | exact rfl | assumption, ?_⟩)); done)); skip) | (apply q_callC; (iterate 3 exact rfl); exact hq 1 _; (focus ((repeat (first | exact trivial | refine ⟨by first | exact rfl | assumption, ?_⟩)); done)); skip)); (try simp only [put, rowsOf, plR, selE, ovr, setH, del, cellsA, splice, isV, spq, if_true, if_false]))
    | (show AW _ _ _ _ _ _ _ _; first | refine aw_region ?_ | (refine aw_seqk ?_; intro K hK) | refine aw_block ?_ | (apply aw_cond_f; exact rfl; exact (by assumption)) | refine aw_ret ?_ | refine aw_exit ?_ | refine aw_skip ?_)
    | refine thn_n ?_
    | (refine hK _ _ _ ?_; clear hK K)
    | refine thn_e ?_
    | refine inb_same ?_
    | refine inb_n ?_
    | (clear hK K; refine hK _ _ _ ?_; clear hK K))); all_goals (repeat (clear hK K)))
    all_goals exact finc (fun z => if z = 0 then 2 else 4) (.r4 _ _ _ _ _ _ _ _ (.agg _ _ _ _ _ rfl (.inr ⟨_, _, _, _, _, rfl, rfl, rfl, rfl⟩) (ty rfl) rfl (Nat.le_of_ble_eq_true rfl)) (.tmp _ _ rfl) (.tmp _ _ rfl) (.tmp _ _ rfl)) (by simp [renA, renL, hdl]) (fun z hz => by simp at hz) ⟨rfl, by rfl, trivial⟩ rfl
end Go.Proofs.Ytglfcaioapdiaaa.Bk

namespace Go.Proofs.Ytglfcaioapdiaaa.Bk
open Go Go.RowKit Go.Proofs.Ytglfcaioapdiaaa.Aw
set_option linter.unusedSimpArgs false
set_option linter.unusedVariables false
set_option linter.unusedSectionVars false
attribute [local irreducible] AW SQ Step RO RC DE Thn InB
theorem codeV_one (n : Int) (ls : List Ln) (a : Int) : codeV n ls [a] = if bkB n ls = true then (if inB a 0 (n - 1) then 0 else 2) else 1 := by
  unfold codeV
  cases bkB n ls <;> cases h1 : inB a 0 (n - 1) <;> simp [h1]
set_option maxHeartbeats 4000000 in
theorem code1_ro (n : Int) (ls : List Ln) (a : Int) (hn : ls.length ≤ 1048576) (k : Nat) : RO Try.prog 49 [.agg (bkL n ls), .dsl 1 [[.v (.int .i64 a)]]] k (.v (.int .i64 (codeV n ls [a]))) [] k := code_ro n ls [a] hn (by simp) k
def dmB (n : Int) (d : List Int) : Bool := ((d.length : Int) == n) && !(d.any fun x => !inB x 0 1000000)
section
variable (n : Int) (ls : List Ln) (ix : List Int) (root : Int) (d : List Int) (hn : ls.length ≤ 1048576) (hx : ix.length ≤ 1048576) (hd : d.length ≤ 1048576)
include hn hx hd
set_option maxHeartbeats 4000000 in
theorem implLoads_bad_ro (hc : codeV n ls [root] ≠ 0) (k : Nat) : RO Try.prog 27 [.agg (bkL n ls), .dsl 1 (ix.map inL), .v (.int .i64 root), .dsl 1 (d.map inL)] k (.tup [.v (.slice none 0 0), .v (.int .i64 (codeV n ls [root]))]) [] k := by
  have hC := code1_ro n ls root hn
  have b1 : (codeV n ls [root] != 0) = true := by simpa using hc
  generalize codeV n ls [root] = c at *
  unfold bkL at hC ⊢
  refine RO.ofp Try.func27 Try.ntmps27 rfl (goFn_of Try.func27 rfl (by kernel_rfl)) rfl rfl rfl ?_
  ((repeat' (first
    | (show SQ _ _ _ _ _ _ _ _; first | apply sq_nil | (apply q_move; exact rfl; exact rfl) | (apply q_assign; exact rfl; exact rfl) | (apply q_neq; iterate 3 exact rfl))
    | (show SQ _ _ _ _ _ _ _ _; (first | (apply q_ldap; exact rfl; exact rfl; exact (ty rfl); exact rfl; exact rfl; exact (by first | rfl | assumption | ((try simp only [Nat.zero_add]); refine List.getElem?_set_self ?_; (try simp only [List.length_set]); assumption)); exact rfl) | (apply q_box; iterate 3 exact rfl) | (apply q_buildn; exact rfl; exact (ty rfl); iterate 7 exact rfl) | (apply q_callU; (iterate 3 exact rfl); exact FzL.of rfl; exact hC _)); (try simp only [put, rowsOf, plR, selE, ovr, setH, del, cellsA, splice, isV, spq, if_true, if_false]))
    | (show AW _ _ _ _ _ _ _ _; first | refine aw_region ?_ | (refine aw_seqk ?_; intro K hK) | refine aw_block ?_ | (apply aw_cond_t; exact rfl; exact (by assumption)) | refine aw_ret ?_)
    | refine thn_n ?_
    | (refine hK _ _ _ ?_; clear hK K)
    | refine thn_r ?_
    | refine inb_r ?_)); all_goals (repeat (clear hK K)))
  all_goals refine fin_r (fin_p (.r2 _ _ _ _ (.tmp _ _ rfl) (.tmp _ _ rfl)) ?_ rfl rfl rfl)
  all_goals rfl
set_option maxHeartbeats 4000000 in
theorem implLoads_rng_ro (hc : codeV n ls [root] = 0) (hm : dmB n d = false) (k : Nat) : RO Try.prog 27 [.agg (bkL n ls), .dsl 1 (ix.map inL), .v (.int .i64 root), .dsl 1 (d.map inL)] k (.tup [.v (.slice none 0 0), .v (.int .i64 2)]) [] k := by
  have hC := code1_ro n ls root hn
  rw [hc] at hC
  have b1 : ((0 : Int) != 0) = false := by simp
  have hA := allWithin_ro d (d.map inL) 0 1000000 rfl hd
  unfold bkL at hC ⊢
  by_cases c1 : (d.length : Int) = n
  · have b2 : (((d.map inL).length : Int) != n) = false := by simpa using c1
    have b3 : (!(!d.any fun x => !inB x 0 1000000)) = true := by
      simp only [dmB, Bool.and_eq_false_iff] at hm
      rcases hm with hm | hm
      · simp at hm; exact absurd c1 hm
      · rw [hm]; rfl
    refine RO.ofp Try.func27 Try.ntmps27 rfl (goFn_of Try.func27 rfl (by kernel_rfl)) rfl rfl rfl ?_
    ((repeat' (first
    | (show SQ _ _ _ _ _ _ _ _; first | apply sq_nil | (apply q_move; exact rfl; exact rfl) | (apply q_assign; exact rfl; exact rfl) | (apply q_pick_f; (iterate 3 exact rfl); exact (by first | assumption | exact rfl)) | (apply q_fieldAddr; exact rfl; exact rfl; exact (ty rfl); iterate 4 exact rfl) | (apply q_not; exact rfl; exact rfl) | (apply q_lend; exact rfl; exact rfl; exact (ty rfl); exact rfl) | (apply q_neq; iterate 3 exact rfl) | (apply q_ld1p; exact rfl; exact rfl; exact (ty rfl); exact rfl; exact rfl; exact (by first | rfl | assumption | ((try simp only [Nat.zero_add]); refine List.getElem?_set_self ?_; (try simp only [List.length_set]); assumption)); exact rfl) | (apply q_g; (iterate 3 exact rfl); exact (by assumption)))
    | (show SQ _ _ _ _ _ _ _ _; (first | (apply q_ldap; exact rfl; exact rfl; exact (ty rfl); exact rfl; exact rfl; exact (by first | rfl | assumption | ((try simp only [Nat.zero_add]); refine List.getElem?_set_self ?_; (try simp only [List.length_set]); assumption)); exact rfl) | (apply q_box; iterate 3 exact rfl) | (apply q_buildn; exact rfl; exact (ty rfl); iterate 7 exact rfl) | (apply q_callU; (iterate 3 exact rfl); exact FzL.of rfl; exact hC _) | (apply q_callU; (iterate 3 exact rfl); exact FzL.of rfl; exact hA _)); (try simp only [put, rowsOf, plR, selE, ovr, setH, del, cellsA, splice, isV, spq, if_true, if_false]))
    | (show AW _ _ _ _ _ _ _ _; first | refine aw_region ?_ | (refine aw_seqk ?_; intro K hK) | refine aw_block ?_ | (apply aw_cond_f; exact rfl; exact rfl) | (apply aw_cond_t; exact rfl; exact (by assumption)) | refine aw_ret ?_)
    | refine thn_n ?_
    | (refine hK _ _ _ ?_; clear hK K)
    | refine thn_r ?_
    | refine inb_r ?_)); all_goals (repeat (clear hK K)))
    all_goals refine fin_r (fin_p (.r2 _ _ _ _ (.tmp _ _ rfl) (.tmp _ _ rfl)) ?_ rfl rfl rfl)
    all_goals rfl
  · have b2 : (((d.map inL).length : Int) != n) = true := by simpa using c1
    refine RO.ofp Try.func27 Try.ntmps27 rfl (goFn_of Try.func27 rfl (by kernel_rfl)) rfl rfl rfl ?_
    ((repeat' (first
    | (show SQ _ _ _ _ _ _ _ _; first | apply sq_nil | (apply q_move; exact rfl; exact rfl) | (apply q_assign; exact rfl; exact rfl) | (apply q_pick_t; (iterate 3 exact rfl); exact (by first | assumption | exact rfl)) | (apply q_fieldAddr; exact rfl; exact rfl; exact (ty rfl); iterate 4 exact rfl) | (apply q_lend; exact rfl; exact rfl; exact (ty rfl); exact rfl) | (apply q_neq; iterate 3 exact rfl) | (apply q_ld1p; exact rfl; exact rfl; exact (ty rfl); exact rfl; exact rfl; exact (by first | rfl | assumption | ((try simp only [Nat.zero_add]); refine List.getElem?_set_self ?_; (try simp only [List.length_set]); assumption)); exact rfl) | (apply q_s; (iterate 3 exact rfl); exact (by assumption); exact rfl))
    | (show SQ _ _ _ _ _ _ _ _; (first | (apply q_ldap; exact rfl; exact rfl; exact (ty rfl); exact rfl; exact rfl; exact (by first | rfl | assumption | ((try simp only [Nat.zero_add]); refine List.getElem?_set_self ?_; (try simp only [List.length_set]); assumption)); exact rfl) | (apply q_box; iterate 3 exact rfl) | (apply q_buildn; exact rfl; exact (ty rfl); iterate 7 exact rfl) | (apply q_callU; (iterate 3 exact rfl); exact FzL.of rfl; exact hC _)); (try simp only [put, rowsOf, plR, selE, ovr, setH, del, cellsA, splice, isV, spq, if_true, if_false]))
    | (show AW _ _ _ _ _ _ _ _; first | refine aw_region ?_ | (refine aw_seqk ?_; intro K hK) | refine aw_block ?_ | (apply aw_cond_t; exact rfl; exact rfl) | (apply aw_cond_f; exact rfl; exact rfl) | refine aw_ret ?_)
    | refine thn_n ?_
    | (refine hK _ _ _ ?_; clear hK K)
    | refine thn_r ?_
    | refine inb_r ?_)); all_goals (repeat (clear hK K)))
    all_goals refine fin_r (fin_p (.r2 _ _ _ _ (.tmp _ _ rfl) (.tmp _ _ rfl)) ?_ rfl rfl rfl)
    all_goals rfl
set_option maxHeartbeats 4000000 in
theorem implLoads_ok_ro (hc : codeV n ls [root] = 0) (hr : 0 ≤ root ∧ root < n) (hm : dmB n d = true) (hTr : Tr n ls ix) (ht : isT n ls ix = true) (k : Nat) :
    RO Try.prog 27 [.agg (bkL n ls), .dsl 1 (ix.map inL), .v (.int .i64 root), .dsl 1 (d.map inL)] k (.tup [.sl k 0 ls.length, .v (.int .i64 0)]) [(k, ⟨2, 1, true, (rm ls.length (loF n ls ix root d ix.length)).map inL⟩)] (k + 1) := by
  have hC := code1_ro n ls root hn
  rw [hc] at hC
  have b1 : ((0 : Int) != 0) = false := by simp
  have hA := allWithin_ro d (d.map inL) 0 1000000 rfl hd
  have hT := isTree_ro n ls ix hTr.n1 hn hx hTr.ok
  simp only [dmB, Bool.and_eq_true, beq_iff_eq] at hm
  have b2 : (((d.map inL).length : Int) != n) = false := by simpa using hm.1
  have b3 : (!(!d.any fun x => !inB x 0 1000000)) = false := by rw [hm.2]; rfl
  have b4 : (!isT n ls ix) = false := by rw [ht]; rfl
  have hdv : ∀ v ∈ d, 0 ≤ v ∧ v ≤ 1000000 := fun v hv => by
    have := hm.2
    simp only [Bool.not_eq_true', List.any_eq_false] at this
    have := this v hv
    simp [inB] at this
    omega
  have hz : List.replicate ls.length [AV.v (.int .i64 0)] = (rm ls.length (loF n ls ix root d 0)).map inL := by
    apply List.ext_getElem?
    intro i
    simp only [List.getElem?_replicate, List.getElem?_map]
    by_cases hi : i < ls.length
    · rw [rm_get hi, loF_0]; simp [hi, inL]
    · rw [List.getElem?_eq_none (show (rm ls.length (loF n ls ix root d 0)).length ≤ i by rw [rm_len]; omega)]; simp [hi]
  refine RO.ofm (.tup [.sl 0 0 ls.length, .v (.int .i64 0)]) ([(0, ⟨2, 1, true, (rm ls.length (loF n ls ix root d ix.length)).map inL⟩)]) 1 Try.func27 Try.ntmps27 rfl (goFn_of Try.func27 rfl (by kernel_rfl)) rfl rfl (by simp [renA, renL]) (by simp [shH, renB]) rfl ?_
  unfold bkL at hC hT ⊢
  ((repeat' (first
    | (show SQ _ _ _ _ _ _ _ _; first | apply sq_nil | (apply q_move; exact rfl; exact rfl) | (apply q_assign; exact rfl; exact rfl) | (apply q_pick_f; (iterate 3 exact rfl); exact (by first | assumption | exact rfl)) | (apply q_fieldAddr; exact rfl; exact rfl; exact (ty rfl); iterate 4 exact rfl) | (apply q_not; exact rfl; exact rfl) | (apply q_lend; exact rfl; exact rfl; exact (ty rfl); exact rfl) | (apply q_neq; iterate 3 exact rfl) | (apply q_ld1p; exact rfl; exact rfl; exact (ty rfl); exact rfl; exact rfl; exact (by first | rfl | assumption | ((try simp only [Nat.zero_add]); refine List.getElem?_set_self ?_; (try simp only [List.length_set]); assumption)); exact rfl) | (apply q_g; (iterate 3 exact rfl); exact (by assumption)))
    | (show SQ _ _ _ _ _ _ _ _; (first | (apply q_ldap; exact rfl; exact rfl; exact (ty rfl); exact rfl; exact rfl; exact (by first | rfl | assumption | ((try simp only [Nat.zero_add]); refine List.getElem?_set_self ?_; (try simp only [List.length_set]); assumption)); exact rfl) | (apply q_box; iterate 3 exact rfl) | (apply q_mks; (iterate 3 exact rfl); exact (ty rfl); exact rfl; exact (by first | omega | (simp; done) | (simp; omega)); exact (by first | omega | (simp; done) | (simp; omega)); exact (by first | omega | (simp; done) | (simp; omega)); exact (by first | omega | (simp; done) | (simp; omega)); exact rfl; exact rfl) | (apply q_buildn; exact rfl; exact (ty rfl); iterate 7 exact rfl) | (apply q_callU; (iterate 3 exact rfl); exact FzL.of rfl; exact hC _) | (apply q_callU; (iterate 3 exact rfl); exact FzL.of rfl; exact hA _) | (apply q_callU; (iterate 3 exact rfl); exact FzL.of rfl; exact hT _)); (try simp only [put, rowsOf, plR, selE, ovr, setH, del, cellsA, splice, isV, spq, if_true, if_false]))
    | (show AW _ _ _ _ _ _ _ _; first | refine aw_region ?_ | (refine aw_seqk ?_; intro K hK) | refine aw_block ?_ | (apply aw_cond_f; exact rfl; exact rfl) | (apply aw_cond_f; exact rfl; exact (by assumption)) | refine aw_skip ?_)
    | refine thn_n ?_
    | (refine hK _ _ _ ?_; clear hK K)
    | refine inb_n ?_)); all_goals (repeat (clear hK K)))
  refine aw_loop (ρ := fun j => [0, 2].getD j 0) (ι := Nat) (fun j => ([(48, .v (.int .i64 j)), (47, .v (.int .i64 ix.length)), (46, .dsl 1 (ix.map inL)), (11, .sl 1 0 ls.length), (4, .ptr 0 0 0), (3, .dsl 1 (d.map inL)), (2, .v (.int .i64 root)), (1, .dsl 1 (ix.map inL))],
      [(0, ⟨31, 2, false, [[.v (.int .i64 n), .dsl 4 (ls.map lnL)]]⟩), (1, ⟨2, 1, true, (rm ls.length (loF n ls ix root d j)).map inL⟩)], 2))
    (fun j => j ≤ ix.length) (fun j => ix.length - j) 0 (Nat.zero_le _) ⟨by (repeat (refine ⟨by first | exact lk_i rfl rfl | exact lk_i rfl (by (try dsimp only); first | rfl | omega | (rw [IntWalk.i64_in _ (by omega)]; first | rfl | omega | (push_cast; omega)) | (simp; done) | (simp; omega)) | exact lk_d rfl rfl | exact lk_r rfl rfl rfl | exact lk_s rfl rfl (by (try dsimp only); first | rfl | omega | (rw [IntWalk.i64_in _ (by omega)]; first | rfl | omega | (push_cast; omega)) | (simp; done) | (simp; omega)) rfl, ?_⟩)); exact trivial, by (repeat (refine ⟨by first | exact ⟨rfl, rfl, rfl⟩ | exact lkb rfl rfl rfl (by (try dsimp only); first | rfl | exact hz | (simp only [List.length_map, Int.toNat_natCast]; exact hz)) rfl, ?_⟩)); exact trivial, by rfl, by exact pin_0⟩ ?_
  intro j hj
  by_cases c1 : j < ix.length
  · have b5 : decide ((j : Int) < (ix.length : Int)) = true := by simpa using c1
    have hrow : (ix.map inL)[((j : Int)).toNat]? = some (inL ix[j]) := by simp [c1]
    rw [inL_eq] at hrow
    have hD : ix.getD j 0 = ix[j] := by simp [List.getD, c1]
    obtain ⟨t, htt⟩ : ∃ t : Nat, ix[j] = (t : Int) := ⟨ix[j].toNat, by have := hTr.rg _ (List.getElem_mem c1); omega⟩
    have htl : t < ls.length := by have := hTr.rg _ (List.getElem_mem c1); omega
    have hwj : IntKind.i64.wrap ((j : Int) + 1) = ((j + 1 : Nat) : Int) := by rw [IntWalk.i64_in _ (by omega)]; omega
    have e0 : rm ls.length (loF n ls ix root d j) = rm ls.length (loG n ls ix root d j 0) := rm_congr fun i _ => (loG_0 hTr.nd c1 i).symm
    have e1 : rm ls.length (loF n ls ix root d (j + 1)) = rm ls.length (loG n ls ix root d j n.toNat) := rm_congr fun i _ => (loG_n c1 i).symm
    have hCl := CloneInt_ro ix (by omega) hx
    have hDl := fun k bi => DeleteFunc_rc ix (t : Int) hx k bi
    have hoix : ∀ y ∈ othI ix (t : Int), 0 ≤ y ∧ y < ls.length := fun y hy => hTr.rg y (List.mem_filter.1 hy).1
    have hol : (othI ix (t : Int)).length ≤ ix.length := List.length_filter_le _ _
    have hRe := reached_ro n ls (othI ix (t : Int)) root hTr.n1 hn (by omega) hTr.ok hoix hr
    have hGo := (reachV_spec (frm := root) hTr.ok hoix hr).1
    have hGl := hGo.le (by have := hTr.n1; omega)
    have hst := fun x i => loG_step (n := n) (ls := ls) (ix := ix) (root := root) (d := d) j x t (by rw [hD, htt]) i
    have hcut : ∀ x, cutB n ls ix root (ix.getD j 0) x = !((reachV n ls (othI ix (t : Int)) root).any fun y => y == (x : Int)) := fun x => by rw [hD, htt]; rfl
    rw [htt] at hrow
    rw [e0]
    ((repeat' (first
    | (show SQ _ _ _ _ _ _ _ _; first | apply sq_nil | (apply q_move; exact rfl; exact rfl) | (apply q_lss; iterate 3 exact rfl) | (apply q_ixd; (iterate 3 exact rfl); exact (ty rfl); exact rfl; exact (by first | omega | (simp; done) | (simp; omega)); exact (by first | omega | (simp; done) | (simp; omega)); exact (by first | rfl | assumption)) | (apply q_ld1d; exact rfl; exact rfl; exact (ty rfl); exact rfl; exact rfl))
    | (show SQ _ _ _ _ _ _ _ _; (first | (apply q_alloc; exact rfl; exact (ty rfl); exact rfl; exact rfl) | (apply q_store; exact rfl; exact rfl; exact (ty rfl); exact rfl; exact (by first | rfl | assumption | ((try simp only [Nat.zero_add]); refine List.getElem?_set_self ?_; (try simp only [List.length_set]); assumption)); iterate 3 exact rfl)); (try simp only [put, rowsOf, plR, selE, ovr, setH, del, cellsA, splice, isV, spq, if_true, if_false]))
    | (show AW _ _ _ _ _ _ _ _; first | refine aw_region ?_ | (refine aw_seqk ?_; intro K hK) | refine aw_block ?_ | (apply aw_cond_t; exact rfl; exact (by assumption)) | refine aw_skip ?_)
    | refine thn_n ?_
    | (refine hK _ _ _ ?_; clear hK K))); all_goals (repeat (clear hK K)))
    have hdt : (((othI ix (t : Int)).map inL ++ List.replicate (ix.length - (othI ix (t : Int)).length) [AV.v (.int .i64 0)]).drop 0).take (othI ix (t : Int)).length = (othI ix (t : Int)).map inL := by
      rw [List.drop_zero, List.take_left' (by simp)]
    have hdt2 : (othI ix (t : Int)).length ≤ ((othI ix (t : Int)).map inL ++ List.replicate (ix.length - (othI ix (t : Int)).length) [AV.v (.int .i64 0)]).length := by simp
    ((repeat' (first
    | (show SQ _ _ _ _ _ _ _ _; apply sq_frzp (t := 13); exact rfl; exact rfl; exact (by first | rfl | exact all_noOwn_map (fun _ => rfl) | assumption | exact hclo); exact (by first | rfl | assumption); exact rfl; (try simp only [put, rowsOf, plR, selE, ovr, setH, del, cellsA, splice, isV, spq, if_true, if_false]))
    | (show SQ _ _ _ _ _ _ _ _; first | apply sq_nil | (apply q_move; exact rfl; exact rfl) | (apply q_assign; exact rfl; exact rfl) | (apply q_lend; exact rfl; exact rfl; exact (ty rfl); exact rfl) | (apply q_mkf; exact rfl; exact rfl))
    | (show SQ _ _ _ _ _ _ _ _; (first | (apply q_ldap; exact rfl; exact rfl; exact (ty rfl); exact rfl; exact rfl; exact (by first | rfl | assumption | ((try simp only [Nat.zero_add]); refine List.getElem?_set_self ?_; (try simp only [List.length_set]); assumption)); exact rfl) | (apply q_callU; (iterate 3 exact rfl); exact FzL.of rfl; exact hCl _) | (apply q_callU; (iterate 3 exact rfl); rotate_left; exact hRe _; rotate_right; focus ((repeat' (first | exact FzL.nil | exact (by assumption : FzC _) _ | refine FzL.cons ?_ ?_ | exact Fz.of rfl | exact Fz.nil | exact Fz.emp | (apply Fz.fnC; assumption) | (apply Fz.sl2; exact rfl; exact (by first | omega | (simp; done) | (simp; omega)); first | exact rfl | exact dt_full (by first | omega | (simp; done) | (simp; omega)) | assumption) | apply Fz.agg | (apply Fz.ptrL; exact rfl; first | exact rfl | assumption) | apply Fz.fnL)); done)) | (apply q_callC; (iterate 3 exact rfl); exact hDl _ 3; (focus ((repeat (first | exact trivial | refine ⟨by first | exact rfl | assumption, ?_⟩)); done)); skip)); (try simp only [put, rowsOf, plR, selE, ovr, setH, del, cellsA, splice, isV, spq, if_true, if_false]))
    | (show AW _ _ _ _ _ _ _ _; first | refine aw_region ?_ | (refine aw_seqk ?_; intro K hK) | refine aw_block ?_)
    | refine thn_n ?_
    | (refine hK _ _ _ ?_; clear hK K))); all_goals (repeat (clear hK K)))
    refine aw_loop (ρ := fun j => [0, 1, 4].getD j 0) (ι := Nat) (fun x => ([(62, .v (.int .i64 x)), (61, .v (.int .i64 d.length)), (60, .dsl 1 (d.map inL)), (48, .v (.int .i64 j)), (47, .v (.int .i64 ix.length)), (46, .dsl 1 (ix.map inL)), (15, .sl 2 0 (reachV n ls (othI ix (t : Int)) root).length), (13, .dptr [.v (.int .i64 (t : Int))]), (11, .sl 1 0 ls.length), (4, .ptr 0 0 0), (3, .dsl 1 (d.map inL)), (2, .v (.int .i64 root)), (1, .dsl 1 (ix.map inL))],
        [(0, ⟨31, 2, false, [[.v (.int .i64 n), .dsl 4 (ls.map lnL)]]⟩), (1, ⟨2, 1, true, (rm ls.length (loG n ls ix root d j x)).map inL⟩), (2, ⟨2, 1, true, (reachV n ls (othI ix (t : Int)) root).map inL⟩)], 3))
      (fun x => x ≤ d.length) (fun x => d.length - x) 0 (Nat.zero_le _) ⟨by (repeat (refine ⟨by first | exact lk_i rfl rfl | exact lk_i rfl (by (try dsimp only); first | rfl | omega | (rw [IntWalk.i64_in _ (by omega)]; first | rfl | omega | (push_cast; omega)) | (simp; done) | (simp; omega)) | exact lk_d rfl rfl | exact lk_r rfl rfl rfl | exact lk_s rfl rfl rfl rfl | exact lk_p rfl rfl, ?_⟩)); exact trivial, by (repeat (refine ⟨by first | exact ⟨rfl, rfl, rfl⟩, ?_⟩)); exact trivial, by rfl, by exact pin_0⟩ ?_
    intro x hxd
    have hdn := hm.1
    have hn12 := hTr.n1
    have hin := loG_in (n := n) (ls := ls) (ix := ix) (root := root) hTr.n1.2 hdv j x t (by omega)
    have hst := hst x
    have hcut := hcut x
    by_cases c2 : x < d.length
    · have b6 : decide ((x : Int) < (d.length : Int)) = true := by simpa using c2
      have hrow2 : (d.map inL)[((x : Int)).toNat]? = some (inL d[x]) := by simp [c2]
      rw [inL_eq] at hrow2
      have hdx := hdv _ (List.getElem_mem c2)
      have hDx : d.getD x 0 = d[x] := by simp [List.getD, c2]
      rw [hDx] at hst
      generalize d[x] = dv at *
      have hwx : IntKind.i64.wrap ((x : Int) + 1) = ((x + 1 : Nat) : Int) := by rw [IntWalk.i64_in _ (by omega)]; omega
      have hCo := slContains_ro (reachV n ls (othI ix (t : Int)) root) ((reachV n ls (othI ix (t : Int)) root).map inL) (x : Int) rfl (by omega)
      have hrow3 : ((rm ls.length (loG n ls ix root d j x)).map inL)[0 + ((t : Int)).toNat]? = some (inL (loG n ls ix root d j x t)) := by
        rw [List.getElem?_map, show 0 + ((t : Int)).toNat = t by omega, rm_get htl]; rfl
      rw [inL_eq] at hrow3
      have hlen3 : ((t : Int)).toNat < ((rm ls.length (loG n ls ix root d j x)).map inL).length := by rw [List.length_map, rm_len]; omega
      cases hb : ((reachV n ls (othI ix (t : Int)) root).any fun y => y == (x : Int)) with
      | true =>
        have b7 : (!((reachV n ls (othI ix (t : Int)) root).any fun y => y == (x : Int))) = false := by rw [hb]; rfl
        have e2 : rm ls.length (loG n ls ix root d j (x + 1)) = rm ls.length (loG n ls ix root d j x) := rm_congr fun i _ => by
          rw [hst i, hcut, hb]
          split
          · rename_i e; subst e; simp
          · rfl
        ((repeat' (first
    | (show SQ _ _ _ _ _ _ _ _; first | apply sq_nil | (apply q_move; exact rfl; exact rfl) | (apply q_assign; exact rfl; exact rfl) | (apply q_not; exact rfl; exact rfl) | (apply q_add; iterate 3 exact rfl) | (apply q_lss; iterate 3 exact rfl) | (apply q_ixd; (iterate 3 exact rfl); exact (ty rfl); exact rfl; exact (by first | omega | (simp; done) | (simp; omega)); exact (by first | omega | (simp; done) | (simp; omega)); exact (by first | rfl | assumption)) | (apply q_ld1d; exact rfl; exact rfl; exact (ty rfl); exact rfl; exact rfl))
    | (show SQ _ _ _ _ _ _ _ _; (first | (apply q_callU; (iterate 3 exact rfl); rotate_left; exact hCo _; rotate_right; focus ((repeat' (first | exact FzL.nil | exact (by assumption : FzC _) _ | refine FzL.cons ?_ ?_ | exact Fz.of rfl | exact Fz.nil | exact Fz.emp | (apply Fz.fnC; assumption) | (apply Fz.sl2; exact rfl; exact (by first | omega | (simp; done) | (simp; omega)); first | exact rfl | exact dt_full (by first | omega | (simp; done) | (simp; omega)) | assumption) | apply Fz.agg | (apply Fz.ptrL; exact rfl; first | exact rfl | assumption) | apply Fz.fnL)); done))); (try simp only [put, rowsOf, plR, selE, ovr, setH, del, cellsA, splice, isV, spq, if_true, if_false]))
    | (show AW _ _ _ _ _ _ _ _; first | refine aw_region ?_ | (refine aw_seqk ?_; intro K hK) | refine aw_block ?_ | (apply aw_cond_t; exact rfl; exact (by assumption)) | (apply aw_cond_f; exact rfl; exact (by assumption)) | refine aw_skip ?_)
    | refine thn_n ?_
    | (refine hK _ _ _ ?_; clear hK K)
    | refine inb_n ?_)); all_goals (repeat (clear hK K)))
        all_goals (refine ⟨x + 1, id, c2, by omega, ?_⟩; (try dsimp only); rw [e2, ← hwx]; exact ⟨by (repeat (refine ⟨by first | exact lk_i rfl rfl | exact lk_d rfl rfl | exact lk_r rfl rfl rfl | exact lk_s rfl rfl rfl rfl | exact lk_p rfl rfl, ?_⟩)); exact trivial, by (repeat (refine ⟨by first | exact ⟨rfl, rfl, rfl⟩, ?_⟩)); exact trivial, by rfl, by exact pin_0⟩)
      | false =>
        have b7 : (!((reachV n ls (othI ix (t : Int)) root).any fun y => y == (x : Int))) = true := by rw [hb]; rfl
        have hwv : IntKind.i64.wrap (loG n ls ix root d j x t + dv) = loG n ls ix root d j x t + dv := IntWalk.i64_in _ (by omega)
        have e2 : (rm ls.length (loG n ls ix root d j (x + 1))).map inL = ((rm ls.length (loG n ls ix root d j x)).map inL).set t [.v (.int .i64 (IntKind.i64.wrap (loG n ls ix root d j x t + dv)))] := by
          have h1 : rm ls.length (loG n ls ix root d j (x + 1)) = (rm ls.length (loG n ls ix root d j x)).set t (loG n ls ix root d j x t + dv) := by
            rw [rm_set]
            exact rm_congr fun i _ => by rw [hst i, hcut, hb]; simp
          rw [h1, List.map_set, hwv]; rfl
        ((repeat' (first
    | (show SQ _ _ _ _ _ _ _ _; first | apply sq_nil | (apply q_move; exact rfl; exact rfl) | (apply q_assign; exact rfl; exact rfl) | (apply q_not; exact rfl; exact rfl) | (apply q_add; iterate 3 exact rfl) | (apply q_lss; iterate 3 exact rfl) | (apply q_ixd; (iterate 3 exact rfl); exact (ty rfl); exact rfl; exact (by first | omega | (simp; done) | (simp; omega)); exact (by first | omega | (simp; done) | (simp; omega)); exact (by first | rfl | assumption)) | (apply q_ixl; (iterate 3 exact rfl); exact (ty rfl); (iterate 3 exact rfl); exact (by first | omega | (simp; done) | (simp; omega)); exact (by first | omega | (simp; done) | (simp; omega))) | (apply q_ld1d; exact rfl; exact rfl; exact (ty rfl); exact rfl; exact rfl) | (apply q_ld1p; exact rfl; exact rfl; exact (ty rfl); exact rfl; exact rfl; exact (by first | rfl | assumption | ((try simp only [Nat.zero_add]); refine List.getElem?_set_self ?_; (try simp only [List.length_set]); assumption)); exact rfl))
    | (show SQ _ _ _ _ _ _ _ _; (first | (apply q_store; exact rfl; exact rfl; exact (ty rfl); exact rfl; exact (by first | rfl | assumption | ((try simp only [Nat.zero_add]); refine List.getElem?_set_self ?_; (try simp only [List.length_set]); assumption)); iterate 3 exact rfl) | (apply q_callU; (iterate 3 exact rfl); rotate_left; exact hCo _; rotate_right; focus ((repeat' (first | exact FzL.nil | exact (by assumption : FzC _) _ | refine FzL.cons ?_ ?_ | exact Fz.of rfl | exact Fz.nil | exact Fz.emp | (apply Fz.fnC; assumption) | (apply Fz.sl2; exact rfl; exact (by first | omega | (simp; done) | (simp; omega)); first | exact rfl | exact dt_full (by first | omega | (simp; done) | (simp; omega)) | assumption) | apply Fz.agg | (apply Fz.ptrL; exact rfl; first | exact rfl | assumption) | apply Fz.fnL)); done))); (try simp only [put, rowsOf, plR, selE, ovr, setH, del, cellsA, splice, isV, spq, if_true, if_false]))
    | (show AW _ _ _ _ _ _ _ _; first | refine aw_region ?_ | (refine aw_seqk ?_; intro K hK) | refine aw_block ?_ | (apply aw_cond_t; exact rfl; exact (by assumption)) | refine aw_skip ?_)
    | refine thn_n ?_
    | (refine hK _ _ _ ?_; clear hK K)
    | refine inb_n ?_)); all_goals (repeat (clear hK K)))
        all_goals (refine ⟨x + 1, id, c2, by omega, ?_⟩; (try dsimp only); rw [e2, ← hwx]; exact ⟨by (repeat (refine ⟨by first | exact lk_i rfl rfl | exact lk_d rfl rfl | exact lk_r rfl rfl rfl | exact lk_s rfl rfl rfl rfl | exact lk_p rfl rfl, ?_⟩)); exact trivial, by (repeat (refine ⟨by first | exact ⟨rfl, rfl, rfl⟩, ?_⟩)); exact trivial, by rfl, by exact pin_0⟩)
    · have b6 : decide ((x : Int) < (d.length : Int)) = false := by simpa using c2
      have hxe : x = n.toNat := by omega
      subst hxe
      ((repeat' (first
    | (show SQ _ _ _ _ _ _ _ _; first | apply sq_nil | (apply q_move; exact rfl; exact rfl) | (apply q_add; iterate 3 exact rfl) | (apply q_lss; iterate 3 exact rfl))
    | (show AW _ _ _ _ _ _ _ _; first | refine aw_region ?_ | (refine aw_seqk ?_; intro K hK) | (apply aw_cond_f; exact rfl; exact (by assumption)) | refine aw_exit ?_)
    | refine thn_n ?_
    | (refine hK _ _ _ ?_; clear hK K)
    | refine thn_e ?_
    | refine inb_same ?_
    | refine inb_n ?_
    | (clear hK K; refine hK _ _ _ ?_; clear hK K))); all_goals (repeat (clear hK K)))
      all_goals (refine ⟨j + 1, id, c1, by omega, ?_⟩; (try dsimp only); rw [e1, ← hwj]; exact ⟨by (repeat (refine ⟨by first | exact lk_i rfl rfl | exact lk_d rfl rfl | exact lk_r rfl rfl rfl | exact lk_s rfl rfl rfl rfl, ?_⟩)); exact trivial, by (repeat (refine ⟨by first | exact ⟨rfl, rfl, rfl⟩, ?_⟩)); exact trivial, by rfl, by exact pin_0⟩)
  · have b5 : decide ((j : Int) < (ix.length : Int)) = false := by simpa using c1
    obtain rfl : j = ix.length := by omega
    ((repeat' (first
    | (show SQ _ _ _ _ _ _ _ _; first | apply sq_nil | (apply q_move; exact rfl; exact rfl) | (apply q_assign; exact rfl; exact rfl) | (apply q_lss; iterate 3 exact rfl))
    | (show AW _ _ _ _ _ _ _ _; first | refine aw_region ?_ | (refine aw_seqk ?_; intro K hK) | (apply aw_cond_f; exact rfl; exact (by assumption)) | refine aw_ret ?_ | refine aw_exit ?_)
    | refine thn_n ?_
    | (refine hK _ _ _ ?_; clear hK K)
    | refine thn_e ?_
    | refine inb_same ?_
    | (clear hK K; refine hK _ _ _ ?_; clear hK K))); all_goals (repeat (clear hK K)))
    all_goals exact fin_r (fin_m2 rfl rfl rfl _ _ rfl rfl rfl)
end
end Go.Proofs.Ytglfcaioapdiaaa.Bk

namespace Go.Proofs.Ytglfcaioapdiaaa.Bk
open Go
set_option linter.unusedSimpArgs false
set_option linter.unusedVariables false
def offB (ix : List Int) (j : Nat) : Bool := ix.any fun y => y == (j : Int)
def restI (ls : List Ln) (ix : List Int) (i : Nat) : List Ln := ((List.range i).filter fun j => !offB ix j).map fun j => ls.getD j lnz
def restL (ls : List Ln) (ix : List Int) : List Ln := restI ls ix ls.length
theorem restL_mem {ls : List Ln} {ix : List Int} {l : Ln} (h : l ∈ restL ls ix) : ∃ i, ∃ hi : i < ls.length, offB ix i = false ∧ ls[i] = l := by
  simp only [restL, restI, List.mem_map, List.mem_filter, List.mem_range, Bool.not_eq_true'] at h
  obtain ⟨i, ⟨hi, ho⟩, e⟩ := h
  exact ⟨i, hi, ho, by simpa [List.getD, hi] using e⟩
end Go.Proofs.Ytglfcaioapdiaaa.Bk

-- Two routes: the program's walk.
namespace Go.Proofs.Ytglfcaioapdiaaa.Bk
open Go Go.RowKit Go.Proofs.Ytglfcaioapdiaaa.Aw
set_option linter.unusedSimpArgs false
set_option linter.unusedVariables false
attribute [local irreducible] AW SQ Step RO RC DE Thn InB
end Go.Proofs.Ytglfcaioapdiaaa.Bk

namespace Go.Proofs.Ytglfcaioapdiaaa.Bk
open Go
set_option linter.unusedSimpArgs false
set_option linter.unusedVariables false
theorem lkAt_app {ls : List Ln} {p : List Int} {y : Int} {j : Nat} (h : j < p.length) : lkAt ls (p ++ [y]) j = lkAt ls p j := by
  unfold lkAt
  simp only [List.getD, List.getElem?_append_left h, List.getElem?_append_left (show j - 1 < p.length by omega)]
theorem rtI_app {ls : List Ln} {p : List Int} {y : Int} : rtI ls (p ++ [y]) p.length = rtI ls p p.length := by
  unfold rtI
  refine List.map_congr_left fun j hj => ?_
  rw [List.mem_range] at hj
  exact lkAt_app (by omega)
theorem rtI_step {ls : List Ln} {p : List Int} {x y : Int} (h0 : p ≠ []) (hl : p.getLast? = some x) : rtI ls (p ++ [y]) (p ++ [y]).length = rtI ls p p.length ++ [ixG (linkP x y) ls] := by
  have hp0 : 0 < p.length := List.length_pos_iff.2 h0
  have e : (p ++ [y]).length = p.length + 1 := by simp
  rw [e, rtI_succ _ _ hp0, rtI_app]
  have e1 : (p ++ [y]).getD p.length 0 = y := by simp [List.getD]
  have e3 : (p ++ [y]).getD (p.length - 1) 0 = x := by
    simp only [List.getD, List.getElem?_append_left (show p.length - 1 < p.length by omega)]
    rw [← List.getLast?_eq_getElem?, hl]; rfl
  rw [lkAt, e1, e3]
theorem EL.uq {ls : List Ln} (hu : Uq ls) {x y o : Int} (h : EL ls x y o) : ∃ (i : Nat) (hi : i < ls.length), ixG (linkP x y) ls = i ∧ linkP x y ls[i] = true ∧ ls[i].o = o := by
  obtain ⟨l, hl, hor, e⟩ := h
  obtain ⟨i, hi, rfl⟩ := List.getElem_of_mem hl
  have hp : linkP x y ls[i] = true := linkP_iff.2 hor
  exact ⟨i, hi, ixG_uq hu hi hp, hp, e.symm⟩
theorem Pt.mono {E E' : Int → Int → Int → Prop} (hE : ∀ x y o, E x y o → E' x y o) {s : Int} {p : List Int} {c t : Int} (h : Pt E s p c t) : Pt E' s p c t := by
  induction h with
  | one => exact .one
  | step h he hy ih => exact .step ih (hE _ _ _ he) hy
theorem EL.rest {ls : List Ln} {ix : List Int} {x y o : Int} (h : EL (restL ls ix) x y o) : EL ls x y o := by
  obtain ⟨l, hl, hor, e⟩ := h
  obtain ⟨i, hi, _, rfl⟩ := restL_mem hl
  exact ⟨ls[i], List.getElem_mem hi, hor, e⟩
theorem Pt.off {ls : List Ln} (hu : Uq ls) {ix : List Int} {s : Int} {p : List Int} {c t : Int} (h : Pt (EL (restL ls ix)) s p c t) : ∀ y ∈ rtI ls p p.length, y ∉ ix := by
  induction h with
  | one => intro y hy; simp [rtI] at hy
  | @step p c x y o h he hy ih =>
    rw [rtI_step h.ne h.last]
    intro z hz
    rcases List.mem_append.1 hz with hz | hz
    · exact ih z hz
    · obtain ⟨l, hl, hor, e⟩ := he
      obtain ⟨i, hi, ho, rfl⟩ := restL_mem hl
      have e1 := ixG_uq hu hi (linkP_iff.2 hor)
      rw [e1, List.mem_singleton] at hz
      subst hz
      intro hc
      have : offB ix i = true := List.any_eq_true.2 ⟨_, hc, by simp⟩
      rw [ho] at this; cases this
end Go.Proofs.Ytglfcaioapdiaaa.Bk

namespace Go.Proofs.Ytglfcaioapdiaaa.Bk
open Go Go.RowKit Go.Proofs.Ytglfcaioapdiaaa.Aw Go.Proofs.Ytglfcaioapdiaaa.Sr
set_option linter.unusedSimpArgs false
set_option linter.unusedVariables false
attribute [local irreducible] AW SQ Step RO RC DE Thn InB
set_option maxHeartbeats 4000000 in
theorem b10Has_ro (xs : List Int) (x : Int) (hn : xs.length ≤ 1048576) (k : Nat) : RO Try.prog 36 [.dsl 1 (xs.map inL), .v (.int .i64 x)] k (.v (.bool (xs.any fun y => y == x))) [] k := by
  refine RO.ofv' Try.func36 Try.ntmps36 rfl (goFn_of Try.func36 rfl (by kernel_rfl)) rfl rfl ?_
  ((repeat' (first
    | (show SQ _ _ _ _ _ _ _ _; first | apply sq_nil | (apply q_assign; exact rfl; exact rfl))
    | (show AW _ _ _ _ _ _ _ _; first | refine aw_region ?_ | (refine aw_seqk ?_; intro K hK) | refine aw_block ?_)
    | refine thn_n ?_
    | (refine hK _ _ _ ?_; clear hK K))); all_goals (repeat (clear hK K)))
  refine aw_loop (ρ := id) (ι := Nat) (fun i => ([(5, .v (.int .i64 i)), (1, .v (.int .i64 x)), (0, .dsl 1 (xs.map inL))], [], 0))
    (fun i => i ≤ xs.length ∧ (xs.take i).any (fun y => y == x) = false) (fun i => xs.length - i) 0 ⟨Nat.zero_le _, by simp⟩ ⟨by (repeat (refine ⟨by first | exact lk_i rfl rfl | exact lk_d rfl rfl, ?_⟩)); exact trivial, by exact trivial, by rfl, by exact pin_0⟩ ?_
  rintro i ⟨hi, hb⟩
  have hml : (xs.map inL).length = xs.length := List.length_map _
  by_cases c1 : i < xs.length
  · have b1 : decide ((i : Int) < ((xs.map inL).length : Int)) = true := by simpa using c1
    have hrow : (xs.map inL)[((i : Int)).toNat]? = some (inL xs[i]) := by simp [c1]
    rw [inL_eq] at hrow
    have hw : IntKind.i64.wrap ((i : Int) + 1) = ((i + 1 : Nat) : Int) := by rw [IntWalk.i64_in _ (by omega)]; omega
    cases c2 : (xs[i] == x) with
    | true =>
      ((repeat' (first
    | (show SQ _ _ _ _ _ _ _ _; first | apply sq_nil | (apply q_move; exact rfl; exact rfl) | (apply q_assign; exact rfl; exact rfl) | (apply q_lend; exact rfl; exact rfl; exact (ty rfl); exact rfl) | (apply q_eql; iterate 3 exact rfl) | (apply q_lss; iterate 3 exact rfl) | (apply q_ixd; (iterate 3 exact rfl); exact (ty rfl); exact rfl; exact (by first | omega | (simp; done) | (simp; omega)); exact (by first | omega | (simp; done) | (simp; omega)); exact (by first | rfl | assumption)) | (apply q_ld1d; exact rfl; exact rfl; exact (ty rfl); exact rfl; exact rfl))
    | (show AW _ _ _ _ _ _ _ _; first | refine aw_region ?_ | (refine aw_seqk ?_; intro K hK) | refine aw_block ?_ | (apply aw_cond_t; exact rfl; exact (by assumption)) | refine aw_ret ?_ | refine aw_skip ?_)
    | refine thn_n ?_
    | (refine hK _ _ _ ?_; clear hK K)
    | refine thn_r ?_
    | refine inb_r ?_)); all_goals (repeat (clear hK K)))
      all_goals refine fin_r (fin_b rfl ?_)
      all_goals exact (List.any_eq_true.2 ⟨xs[i], List.getElem_mem c1, c2⟩).symm
    | false =>
      ((repeat' (first
    | (show SQ _ _ _ _ _ _ _ _; first | apply sq_nil | (apply q_move; exact rfl; exact rfl) | (apply q_assign; exact rfl; exact rfl) | (apply q_lend; exact rfl; exact rfl; exact (ty rfl); exact rfl) | (apply q_add; iterate 3 exact rfl) | (apply q_eql; iterate 3 exact rfl) | (apply q_lss; iterate 3 exact rfl) | (apply q_ixd; (iterate 3 exact rfl); exact (ty rfl); exact rfl; exact (by first | omega | (simp; done) | (simp; omega)); exact (by first | omega | (simp; done) | (simp; omega)); exact (by first | rfl | assumption)) | (apply q_ld1d; exact rfl; exact rfl; exact (ty rfl); exact rfl; exact rfl))
    | (show AW _ _ _ _ _ _ _ _; first | refine aw_region ?_ | (refine aw_seqk ?_; intro K hK) | refine aw_block ?_ | (apply aw_cond_t; exact rfl; exact (by assumption)) | (apply aw_cond_f; exact rfl; exact (by assumption)) | refine aw_skip ?_)
    | refine thn_n ?_
    | (refine hK _ _ _ ?_; clear hK K)
    | refine inb_n ?_)); all_goals (repeat (clear hK K)))
      all_goals (refine ⟨i + 1, id, ⟨c1, by rw [List.take_succ_eq_append_getElem c1, List.any_append, hb]; simpa using c2⟩, by omega, ?_⟩; (try dsimp only); rw [← hw]; exact ⟨by (repeat (refine ⟨by first | exact lk_i rfl rfl | exact lk_d rfl rfl, ?_⟩)); exact trivial, by exact trivial, by rfl, by exact pin_0⟩)
  · have b1 : decide ((i : Int) < ((xs.map inL).length : Int)) = false := by simpa using c1
    obtain rfl : i = xs.length := by omega
    rw [List.take_length] at hb
    ((repeat' (first
    | (show SQ _ _ _ _ _ _ _ _; first | apply sq_nil | (apply q_move; exact rfl; exact rfl) | (apply q_assign; exact rfl; exact rfl) | (apply q_lend; exact rfl; exact rfl; exact (ty rfl); exact rfl) | (apply q_lss; iterate 3 exact rfl))
    | (show AW _ _ _ _ _ _ _ _; first | refine aw_region ?_ | (refine aw_seqk ?_; intro K hK) | (apply aw_cond_f; exact rfl; exact (by assumption)) | refine aw_ret ?_ | refine aw_exit ?_)
    | refine thn_n ?_
    | (refine hK _ _ _ ?_; clear hK K)
    | refine thn_e ?_
    | refine inb_same ?_
    | (clear hK K; refine hK _ _ _ ?_; clear hK K))); all_goals (repeat (clear hK K)))
    all_goals refine fin_r (fin_b rfl ?_)
    all_goals exact hb.symm
set_option maxHeartbeats 4000000 in
theorem b10Long_ro (a : List Int) (m : Nat) : RO Try.prog 32 [.dsl 1 (byL a)] m (.v (.bool (decide (1048576 < (a.length : Int))))) [] m := by
  have h1 : (byL a).length = a.length := List.length_map _
  refine RO.ofv' Try.func32 Try.ntmps32 rfl (goFn_of Try.func32 rfl (by kernel_rfl)) rfl rfl ?_
  ((repeat' (first
    | (show SQ _ _ _ _ _ _ _ _; first | apply sq_nil | (apply q_move; exact rfl; exact rfl) | (apply q_assign; exact rfl; exact rfl) | (apply q_lend; exact rfl; exact rfl; exact (ty rfl); exact rfl) | (apply q_gtr; iterate 3 exact rfl))
    | (show AW _ _ _ _ _ _ _ _; first | refine aw_region ?_ | (refine aw_seqk ?_; intro K hK) | refine aw_ret ?_)
    | refine thn_n ?_
    | (refine hK _ _ _ ?_; clear hK K))); all_goals (repeat (clear hK K)))
  all_goals refine fin_r (fin_b rfl ?_)
  all_goals simp_all
end Go.Proofs.Ytglfcaioapdiaaa.Bk
