/-
  Two routes: the reference's walk.
-/
import Derived.Test.YtglfcaioapdiaaaTwA
namespace Go.Proofs.Ytglfcaioapdiaaa.Bk
open Go Go.RowKit Go.Proofs.Ytglfcaioapdiaaa.Aw
set_option linter.unusedSimpArgs false
set_option linter.unusedVariables false
attribute [local irreducible] AW SQ Step RO RC DE Thn InB

section
variable (n : Int) (ls : List Ln) (a b : Int) (hn : ls.length ≤ 1048576)
include hn
set_option maxHeartbeats 4000000 in
theorem l25Two_bad_ro (hc : codeV n ls [a, b] ≠ 0) (k : Nat) : RO Try.prog 53 [.dptr (bkL n ls), .v (.int .i64 a), .v (.int .i64 b)] k (.tup [.v (.slice none 0 0), .v (.slice none 0 0), .v (.int .i64 (codeV n ls [a, b]))]) [] k := by
  have hC := l25Ask_ro n ls a b hn
  have b1 : (codeV n ls [a, b] != 0) = true := by simpa using hc
  generalize codeV n ls [a, b] = c at *
  unfold bkL at hC ⊢
  refine RO.ofp Try.func53 Try.ntmps53 rfl (goFn_of Try.func53 rfl (by kernel_rfl)) rfl rfl rfl ?_
  ((repeat' (first
    | (show SQ _ _ _ _ _ _ _ _; first | apply sq_nil | (apply q_move; exact rfl; exact rfl) | (apply q_assign; exact rfl; exact rfl) | (apply q_neq; exact rfl; exact rfl; exact rfl))
    | (show SQ _ _ _ _ _ _ _ _; (first | (apply q_callU; exact rfl; exact rfl; exact rfl; exact FzL.of rfl; exact hC _)); (try simp only [put, rowsOf, plR, List.all_cons, selE, ovr, setH, del, cellsA, splice, isV, List.nil_append, List.cons_append, List.map_cons, List.map_nil, List.length_cons, List.length_nil, List.set_cons_zero, List.set_cons_succ, List.take_succ_cons, List.take_zero, List.take_nil, List.drop_succ_cons, List.drop_zero, List.drop_nil, List.append_nil, List.all_cons, List.all_nil, Bool.and_true, Bool.true_and, Bool.and_false, Bool.false_and, Nat.reduceAdd, Nat.zero_add, Nat.add_zero, Nat.reduceEqDiff, if_true, if_false, reduceIte]))
    | (show AW _ _ _ _ _ _ _ _; first | refine aw_region ?_ | (refine aw_seqk ?_; intro K hK) | (apply aw_cond_t; exact rfl; exact (by assumption)) | refine aw_ret ?_)
    | refine thn_n ?_
    | (refine hK _ _ _ ?_; clear hK K)
    | refine thn_r ?_)); all_goals (repeat (clear hK K)))
  all_goals refine fin_r (fin_p (.r3 _ _ _ _ _ _ (.tmp _ _ rfl) (.tmp _ _ rfl) (.tmp _ _ rfl)) ?_ rfl rfl rfl)
  all_goals rfl
set_option maxHeartbeats 4000000 in
theorem l25Two_same_ro (hc : codeV n ls [a, b] = 0) (he : a = b) (k : Nat) : RO Try.prog 53 [.dptr (bkL n ls), .v (.int .i64 a), .v (.int .i64 b)] k (.tup [.v (.slice none 0 0), .v (.slice none 0 0), .v (.int .i64 6)]) [] k := by
  have hC := l25Ask_ro n ls a b hn
  rw [hc] at hC
  have b1 : ((0 : Int) != 0) = false := by simp
  have b2 : (a == b) = true := by simpa using he
  unfold bkL at hC ⊢
  refine RO.ofp Try.func53 Try.ntmps53 rfl (goFn_of Try.func53 rfl (by kernel_rfl)) rfl rfl rfl ?_
  ((repeat' (first
    | (show SQ _ _ _ _ _ _ _ _; first | apply sq_nil | (apply q_move; exact rfl; exact rfl) | (apply q_assign; exact rfl; exact rfl) | (apply q_eql; exact rfl; exact rfl; exact rfl) | (apply q_neq; exact rfl; exact rfl; exact rfl))
    | (show SQ _ _ _ _ _ _ _ _; (first | (apply q_callU; exact rfl; exact rfl; exact rfl; exact FzL.of rfl; exact hC _)); (try simp only [put, rowsOf, plR, List.all_cons, selE, ovr, setH, del, cellsA, splice, isV, List.nil_append, List.cons_append, List.map_cons, List.map_nil, List.length_cons, List.length_nil, List.set_cons_zero, List.set_cons_succ, List.take_succ_cons, List.take_zero, List.take_nil, List.drop_succ_cons, List.drop_zero, List.drop_nil, List.append_nil, List.all_cons, List.all_nil, Bool.and_true, Bool.true_and, Bool.and_false, Bool.false_and, Nat.reduceAdd, Nat.zero_add, Nat.add_zero, Nat.reduceEqDiff, if_true, if_false, reduceIte]))
    | (show AW _ _ _ _ _ _ _ _; first | refine aw_region ?_ | (refine aw_seqk ?_; intro K hK) | (apply aw_cond_f; exact rfl; exact rfl) | (apply aw_cond_t; exact rfl; exact (by assumption)) | refine aw_ret ?_ | refine aw_skip ?_)
    | refine thn_n ?_
    | (refine hK _ _ _ ?_; clear hK K)
    | refine thn_r ?_)); all_goals (repeat (clear hK K)))
  all_goals refine fin_r (fin_p (.r3 _ _ _ _ _ _ (.tmp _ _ rfl) (.tmp _ _ rfl) (.tmp _ _ rfl)) ?_ rfl rfl rfl)
  all_goals rfl
set_option maxHeartbeats 4000000 in
theorem l25Two_none_ro (hc : codeV n ls [a, b] = 0) (he : a ≠ b) (hh : fh (farR n ls b) a = false) (k : Nat) : RO Try.prog 53 [.dptr (bkL n ls), .v (.int .i64 a), .v (.int .i64 b)] k (.tup [.v (.slice none 0 0), .v (.slice none 0 0), .v (.int .i64 3)]) [] k := by
  have hC := l25Ask_ro n ls a b hn
  obtain ⟨hN, hL, ha, hb, _⟩ := codeV_ok hc
  have hA := l25All_ro n ls hn
  have hR := l25Route_rc n ls (allT ls.length) true a b hN hn (allT_len _) hL ha hb
  rw [(ref_eq hL hL hN.2 ha hb fun x y o => Lk_all).1, hh] at hR
  generalize (routeW n ls (allT ls.length) true a b).p = p at hR
  rw [hc] at hC
  have b1 : ((0 : Int) != 0) = false := by simp
  have b2 : (a == b) = false := by simpa using he
  have b3 : (!false) = true := rfl
  have hml : ((allT ls.length).map boL).length = ls.length := by simp [allT]
  unfold bkL at hC hR hA ⊢
  refine RO.ofp Try.func53 Try.ntmps53 rfl (goFn_of Try.func53 rfl (by kernel_rfl)) rfl rfl rfl ?_
  ((repeat' (first
    | (show SQ _ _ _ _ _ _ _ _; apply sq_frz (t := 33); exact rfl; exact rfl; exact (by first | rfl | exact all_noOwn_map (fun _ => rfl) | assumption); exact (by first | omega | (simp; done) | (simp; omega)); exact (by first | exact dt_full (by first | omega | (simp; done) | (simp; omega)) | assumption | rfl); (try simp only [put, rowsOf, plR, List.all_cons, selE, ovr, setH, del, cellsA, splice, isV, List.nil_append, List.cons_append, List.map_cons, List.map_nil, List.length_cons, List.length_nil, List.set_cons_zero, List.set_cons_succ, List.take_succ_cons, List.take_zero, List.take_nil, List.drop_succ_cons, List.drop_zero, List.drop_nil, List.append_nil, List.all_cons, List.all_nil, Bool.and_true, Bool.true_and, Bool.and_false, Bool.false_and, Nat.reduceAdd, Nat.zero_add, Nat.add_zero, Nat.reduceEqDiff, if_true, if_false, reduceIte]))
    | (show SQ _ _ _ _ _ _ _ _; first | apply sq_nil | (apply q_move; exact rfl; exact rfl) | (apply q_assign; exact rfl; exact rfl) | (apply q_not; exact rfl; exact rfl) | (apply q_ext; exact rfl; exact rfl; exact rfl) | (apply q_eql; exact rfl; exact rfl; exact rfl) | (apply q_neq; exact rfl; exact rfl; exact rfl))
    | (show SQ _ _ _ _ _ _ _ _; (first | (apply q_callU; exact rfl; exact rfl; exact rfl; exact FzL.of rfl; exact hC _) | (apply q_callU; exact rfl; exact rfl; exact rfl; exact FzL.of rfl; exact hA _) | (apply q_callC; exact rfl; exact rfl; exact rfl; exact hR _; (focus ((repeat (first | exact trivial | refine ⟨by first | exact rfl | assumption, ?_⟩)); done)); skip)); (try simp only [put, rowsOf, plR, List.all_cons, selE, ovr, setH, del, cellsA, splice, isV, List.nil_append, List.cons_append, List.map_cons, List.map_nil, List.length_cons, List.length_nil, List.set_cons_zero, List.set_cons_succ, List.take_succ_cons, List.take_zero, List.take_nil, List.drop_succ_cons, List.drop_zero, List.drop_nil, List.append_nil, List.all_cons, List.all_nil, Bool.and_true, Bool.true_and, Bool.and_false, Bool.false_and, Nat.reduceAdd, Nat.zero_add, Nat.add_zero, Nat.reduceEqDiff, if_true, if_false, reduceIte]))
    | (show AW _ _ _ _ _ _ _ _; first | refine aw_region ?_ | (refine aw_seqk ?_; intro K hK) | (apply aw_cond_t; exact rfl; exact rfl) | (apply aw_cond_f; exact rfl; exact rfl) | (apply aw_cond_f; exact rfl; exact (by assumption)) | refine aw_ret ?_ | refine aw_skip ?_)
    | refine thn_n ?_
    | (refine hK _ _ _ ?_; clear hK K)
    | refine thn_r ?_)); all_goals (repeat (clear hK K)))
  all_goals refine fin_r (fin_p (.r3 _ _ _ _ _ _ (.tmp _ _ rfl) (.tmp _ _ rfl) (.tmp _ _ rfl)) ?_ rfl rfl rfl)
  all_goals rfl
set_option maxHeartbeats 4000000 in
theorem l25Two_one_rc (hc : codeV n ls [a, b] = 0) (he : a ≠ b) (hh : fh (farR n ls b) a = true) (hh2 : fh (farR n (twR n ls a b) b) a = false) (k : Nat) : RO Try.prog 53 [.dptr (bkL n ls), .v (.int .i64 a), .v (.int .i64 b)] k (.tup [.v (.slice none 0 0), .v (.slice none 0 0), .v (.int .i64 3)]) [] k := by
  have hC := l25Ask_ro n ls a b hn
  obtain ⟨hN, hL, ha, hb, _⟩ := codeV_ok hc
  have hA := l25All_ro n ls hn
  have hR := l25Route_rc n ls (allT ls.length) true a b hN hn (allT_len _) hL ha hb
  have hre := ref_eq hL hL hN.2 ha hb fun x y o => Lk_all
  rw [hre.1, hh, hre.2 hh] at hR
  have hlen := rtL_len n ls a b
  have hle := rtL_le hL hN.2 hb hh
  have hRt := rtL_rtB hL hN.2 ha hb hh
  have hLk := l25Links_ok_ro n ls (rtL n ls a b) hN hn (by omega) hRt
  have hix := rtI_in' hRt
  have hixl := rtI_len ls (rtL n ls a b) (rtL n ls a b).length
  have e : rtI ls (rtL n ls a b) (rtL n ls a b).length = twI n ls a b := rfl
  rw [e] at hLk hix hixl
  have hR2 := l25Route_rc n ls (mayF ls.length (twI n ls a b) (twI n ls a b).length) true a b hN hn (mayF_len _ _ _) hL ha hb
  have hre2 := ref_eq (restL_ok (ix := twI n ls a b) hL) hL hN.2 ha hb fun x y o => Lk_rest hix
  have e2 : restL ls (twI n ls a b) = twR n ls a b := rfl
  rw [e2] at hre2
  rw [hre2.1, hh2] at hR2
  have hp2 := hre2.2
  rw [hh2] at hp2
  rw [hc] at hC
  have b1 : ((0 : Int) != 0) = false := by simp
  have b2 : (a == b) = false := by simpa using he
  have b3 : (!true) = false := rfl
  have b4 : (!false) = true := rfl
  have hml : ((allT ls.length).map boL).length = ls.length := by simp [allT]
  refine RO.ofp Try.func53 Try.ntmps53 rfl (goFn_of Try.func53 rfl (by kernel_rfl)) rfl rfl rfl ?_
  generalize (routeW n ls (mayF ls.length (twI n ls a b) (twI n ls a b).length) true a b).p = p2 at hR2 hp2
  generalize rtL n (twR n ls a b) a b = xs2 at *
  generalize rtL n ls a b = p at *
  generalize twI n ls a b = ix at *
  clear e e2 hre hre2 hRt
  unfold bkL at hC hR hA hLk hR2 ⊢
  ((repeat' (first
    | (show SQ _ _ _ _ _ _ _ _; apply sq_frz (t := 33); exact rfl; exact rfl; exact (by first | rfl | exact all_noOwn_map (fun _ => rfl) | assumption); exact (by first | omega | (simp; done) | (simp; omega)); exact (by first | exact dt_full (by first | omega | (simp; done) | (simp; omega)) | assumption | rfl); (try simp only [put, rowsOf, plR, List.all_cons, selE, ovr, setH, del, cellsA, splice, isV, List.nil_append, List.cons_append, List.map_cons, List.map_nil, List.length_cons, List.length_nil, List.set_cons_zero, List.set_cons_succ, List.take_succ_cons, List.take_zero, List.take_nil, List.drop_succ_cons, List.drop_zero, List.drop_nil, List.append_nil, List.all_cons, List.all_nil, Bool.and_true, Bool.true_and, Bool.and_false, Bool.false_and, Nat.reduceAdd, Nat.zero_add, Nat.add_zero, Nat.reduceEqDiff, if_true, if_false, reduceIte]))
    | (show SQ _ _ _ _ _ _ _ _; first | apply sq_nil | (apply q_move; exact rfl; exact rfl) | (apply q_assign; exact rfl; exact rfl) | (apply q_not; exact rfl; exact rfl) | (apply q_ext; exact rfl; exact rfl; exact rfl) | (apply q_eql; exact rfl; exact rfl; exact rfl) | (apply q_neq; exact rfl; exact rfl; exact rfl))
    | (show SQ _ _ _ _ _ _ _ _; (first | (apply q_callU; exact rfl; exact rfl; exact rfl; exact FzL.of rfl; exact hC _) | (apply q_callU; exact rfl; exact rfl; exact rfl; exact FzL.of rfl; exact hA _) | (apply q_callU; exact rfl; exact rfl; exact rfl; exact FzL.of rfl; exact hLk _) | (apply q_callC; exact rfl; exact rfl; exact rfl; exact hR _; (focus ((repeat (first | exact trivial | refine ⟨by first | exact rfl | assumption, ?_⟩)); done)); skip)); (try simp only [put, rowsOf, plR, List.all_cons, selE, ovr, setH, del, cellsA, splice, isV, List.nil_append, List.cons_append, List.map_cons, List.map_nil, List.length_cons, List.length_nil, List.set_cons_zero, List.set_cons_succ, List.take_succ_cons, List.take_zero, List.take_nil, List.drop_succ_cons, List.drop_zero, List.drop_nil, List.append_nil, List.all_cons, List.all_nil, Bool.and_true, Bool.true_and, Bool.and_false, Bool.false_and, Nat.reduceAdd, Nat.zero_add, Nat.add_zero, Nat.reduceEqDiff, if_true, if_false, reduceIte]))
    | (show AW _ _ _ _ _ _ _ _; first | refine aw_region ?_ | (refine aw_seqk ?_; intro K hK) | refine aw_block ?_ | (apply aw_cond_f; exact rfl; exact rfl) | (apply aw_cond_f; exact rfl; exact (by assumption)) | refine aw_skip ?_)
    | refine thn_n ?_
    | (refine hK _ _ _ ?_; clear hK K))); all_goals (repeat (clear hK K)))
  refine aw_loop (ρ := id) (ι := Nat) (fun i => ([(15, .v (.int .i64 i)), (13, .sl 2 0 ix.length), (12, .sl 1 0 ls.length), (10, .dsl 1 (p.map inL)), (2, .v (.int .i64 b)), (1, .v (.int .i64 a)), (0, .dptr [.v (.int .i64 n), .dsl 4 (ls.map lnL)])],
      [(1, ⟨4, 1, true, (mayF ls.length ix i).map boL⟩), (2, ⟨2, 1, true, ix.map inL⟩)], 3))
    (fun i => i ≤ ix.length) (fun i => ix.length - i) 0 (Nat.zero_le _) ⟨by (repeat (refine ⟨by first | exact lk_i rfl rfl | exact lk_d rfl rfl | exact lk_s rfl rfl rfl rfl | exact lk_p rfl rfl, ?_⟩)); exact trivial, by (repeat (refine ⟨by first | exact ⟨rfl, rfl, rfl⟩, ?_⟩)); exact trivial, by rfl, by exact pin_0⟩ ?_
  intro i hi
  have hm1 := mayF_len ls.length ix i
  have hm2 : ((mayF ls.length ix i).map boL).length = ls.length := by rw [List.length_map, hm1]
  by_cases c2 : i < ix.length
  · have b5 : decide ((i : Int) < (ix.length : Int)) = true := by simpa using c2
    have hrow : (ix.map inL)[0 + ((i : Int)).toNat]? = some (inL ix[i]) := by simp [c2]
    rw [inL_eq] at hrow
    obtain ⟨x0, x1⟩ := hix ix[i] (List.getElem_mem c2)
    have hms := mayF_succ (m := ls.length) c2
    generalize hxi : ix[i] = x at *
    have x2 : x.toNat < (mayF ls.length ix i).length := by omega
    have hrow2 : ((mayF ls.length ix i).map boL)[0 + x.toNat]? = some (boL (mayF ls.length ix i)[x.toNat]) := by simp [x2]
    rw [boL_eq] at hrow2
    have hset : ((mayF ls.length ix i).map boL).set x.toNat [.v (.bool false)] = (mayF ls.length ix (i + 1)).map boL := by rw [hms, List.map_set]; rfl
    ((repeat' (first
    | (show SQ _ _ _ _ _ _ _ _; first | apply sq_nil | (apply q_move; exact rfl; exact rfl) | (apply q_assign; exact rfl; exact rfl) | (apply q_lenl; exact rfl; exact rfl; exact (ty rfl); exact rfl) | (apply q_add; exact rfl; exact rfl; exact rfl) | (apply q_lss; exact rfl; exact rfl; exact rfl) | (apply q_ixl; exact rfl; exact rfl; exact rfl; exact (ty rfl); exact rfl; exact rfl; exact rfl; exact (by first | omega | (simp; done) | (simp; omega)); exact (by first | omega | (simp; done) | (simp; omega))) | (apply q_ld1p; exact rfl; exact rfl; exact (ty rfl); exact rfl; exact rfl; exact (by first | rfl | assumption | ((try simp only [Nat.zero_add]); refine List.getElem?_set_self ?_; (try simp only [List.length_set]); assumption)); exact rfl))
    | (show SQ _ _ _ _ _ _ _ _; (first | (apply q_store; exact rfl; exact rfl; exact (ty rfl); exact rfl; exact (by first | rfl | assumption | ((try simp only [Nat.zero_add]); refine List.getElem?_set_self ?_; (try simp only [List.length_set]); assumption)); exact rfl; exact rfl; exact rfl)); (try simp only [put, rowsOf, plR, List.all_cons, selE, ovr, setH, del, cellsA, splice, isV, List.nil_append, List.cons_append, List.map_cons, List.map_nil, List.length_cons, List.length_nil, List.set_cons_zero, List.set_cons_succ, List.take_succ_cons, List.take_zero, List.take_nil, List.drop_succ_cons, List.drop_zero, List.drop_nil, List.append_nil, List.all_cons, List.all_nil, Bool.and_true, Bool.true_and, Bool.and_false, Bool.false_and, Nat.reduceAdd, Nat.zero_add, Nat.add_zero, Nat.reduceEqDiff, if_true, if_false, reduceIte]))
    | (show AW _ _ _ _ _ _ _ _; first | refine aw_region ?_ | (refine aw_seqk ?_; intro K hK) | refine aw_block ?_ | (apply aw_cond_t; exact rfl; exact (by assumption)) | refine aw_skip ?_)
    | refine thn_n ?_
    | (refine hK _ _ _ ?_; clear hK K)
    | refine inb_n ?_)); all_goals (repeat (clear hK K)))
    all_goals (refine ⟨i + 1, id, c2, by omega, ?_⟩; (try dsimp only); rw [← hset]; exact ⟨by (repeat (refine ⟨by first | exact lk_i rfl rfl | exact lk_i rfl (by (try dsimp only); first | rfl | omega | (rw [IntWalk.i64_in _ (by omega)]; first | rfl | omega | (push_cast; omega)) | (simp; done) | (simp; omega)) | exact lk_d rfl rfl | exact lk_s rfl rfl rfl rfl | exact lk_p rfl rfl, ?_⟩)); exact trivial, by (repeat (refine ⟨by first | exact ⟨rfl, rfl, rfl⟩, ?_⟩)); exact trivial, by rfl, by exact pin_0⟩)
  · have b5 : decide ((i : Int) < (ix.length : Int)) = false := by simpa using c2
    obtain rfl : i = ix.length := by omega
    ((repeat' (first
    | (show SQ _ _ _ _ _ _ _ _; apply sq_frz (t := 63); exact rfl; exact rfl; exact (by first | rfl | exact all_noOwn_map (fun _ => rfl) | assumption); exact (by first | omega | (simp; done) | (simp; omega)); exact (by first | exact dt_full (by first | omega | (simp; done) | (simp; omega)) | assumption | rfl); (try simp only [put, rowsOf, plR, List.all_cons, selE, ovr, setH, del, cellsA, splice, isV, List.nil_append, List.cons_append, List.map_cons, List.map_nil, List.length_cons, List.length_nil, List.set_cons_zero, List.set_cons_succ, List.take_succ_cons, List.take_zero, List.take_nil, List.drop_succ_cons, List.drop_zero, List.drop_nil, List.append_nil, List.all_cons, List.all_nil, Bool.and_true, Bool.true_and, Bool.and_false, Bool.false_and, Nat.reduceAdd, Nat.zero_add, Nat.add_zero, Nat.reduceEqDiff, if_true, if_false, reduceIte]))
    | (show SQ _ _ _ _ _ _ _ _; first | apply sq_nil | (apply q_move; exact rfl; exact rfl) | (apply q_assign; exact rfl; exact rfl) | (apply q_not; exact rfl; exact rfl) | (apply q_ext; exact rfl; exact rfl; exact rfl) | (apply q_lenl; exact rfl; exact rfl; exact (ty rfl); exact rfl) | (apply q_lss; exact rfl; exact rfl; exact rfl))
    | (show SQ _ _ _ _ _ _ _ _; (first | (apply q_callC; exact rfl; exact rfl; exact rfl; exact hR2 _; (focus ((repeat (first | exact trivial | refine ⟨by first | exact rfl | assumption, ?_⟩)); done)); skip)); (try simp only [put, rowsOf, plR, List.all_cons, selE, ovr, setH, del, cellsA, splice, isV, List.nil_append, List.cons_append, List.map_cons, List.map_nil, List.length_cons, List.length_nil, List.set_cons_zero, List.set_cons_succ, List.take_succ_cons, List.take_zero, List.take_nil, List.drop_succ_cons, List.drop_zero, List.drop_nil, List.append_nil, List.all_cons, List.all_nil, Bool.and_true, Bool.true_and, Bool.and_false, Bool.false_and, Nat.reduceAdd, Nat.zero_add, Nat.add_zero, Nat.reduceEqDiff, if_true, if_false, reduceIte]))
    | (show AW _ _ _ _ _ _ _ _; first | refine aw_region ?_ | (refine aw_seqk ?_; intro K hK) | (apply aw_cond_t; exact rfl; exact rfl) | (apply aw_cond_f; exact rfl; exact (by assumption)) | refine aw_ret ?_ | refine aw_exit ?_)
    | refine thn_n ?_
    | (refine hK _ _ _ ?_; clear hK K)
    | refine thn_e ?_
    | refine thn_r ?_
    | refine inb_same ?_
    | (clear hK K; refine hK _ _ _ ?_; clear hK K))); all_goals (repeat (clear hK K)))
    all_goals (try rw [hp2 rfl])
    all_goals (refine fin_r (fin_p (.r3 _ _ _ _ _ _ (.tmp _ _ rfl) (.tmp _ _ rfl) (.tmp _ _ rfl)) ?_ rfl rfl rfl); rfl)
set_option maxHeartbeats 4000000 in
theorem l25Two_both_rc (hc : codeV n ls [a, b] = 0) (he : a ≠ b) (hh : fh (farR n ls b) a = true) (hh2 : fh (farR n (twR n ls a b) b) a = true) (k : Nat) : RC Try.prog 53 [.dptr (bkL n ls), .v (.int .i64 a), .v (.int .i64 b)] [] k (.tup [.dsl 1 ((rtL n ls a b).map inL), .dsl 1 ((rtL n (twR n ls a b) a b).map inL), .v (.int .i64 0)]) [] k := by
  have hC := l25Ask_ro n ls a b hn
  obtain ⟨hN, hL, ha, hb, _⟩ := codeV_ok hc
  have hA := l25All_ro n ls hn
  have hR := l25Route_rc n ls (allT ls.length) true a b hN hn (allT_len _) hL ha hb
  have hre := ref_eq hL hL hN.2 ha hb fun x y o => Lk_all
  rw [hre.1, hh, hre.2 hh] at hR
  have hlen := rtL_len n ls a b
  have hle := rtL_le hL hN.2 hb hh
  have hRt := rtL_rtB hL hN.2 ha hb hh
  have hLk := l25Links_ok_ro n ls (rtL n ls a b) hN hn (by omega) hRt
  have hix := rtI_in' hRt
  have hixl := rtI_len ls (rtL n ls a b) (rtL n ls a b).length
  have e : rtI ls (rtL n ls a b) (rtL n ls a b).length = twI n ls a b := rfl
  rw [e] at hLk hix hixl
  have hR2 := l25Route_rc n ls (mayF ls.length (twI n ls a b) (twI n ls a b).length) true a b hN hn (mayF_len _ _ _) hL ha hb
  have hre2 := ref_eq (restL_ok (ix := twI n ls a b) hL) hL hN.2 ha hb fun x y o => Lk_rest hix
  have e2 : restL ls (twI n ls a b) = twR n ls a b := rfl
  rw [e2] at hre2
  rw [hre2.1, hh2] at hR2
  have hp2 := hre2.2
  rw [hh2] at hp2
  rw [hc] at hC
  have b1 : ((0 : Int) != 0) = false := by simp
  have b2 : (a == b) = false := by simpa using he
  have b3 : (!true) = false := rfl
  have b4 : (!false) = true := rfl
  have hml : ((allT ls.length).map boL).length = ls.length := by simp [allT]
  refine RC.ofc [] 0 [.dptr (bkL n ls), .v (.int .i64 a), .v (.int .i64 b)] [] (.tup [.dsl 1 ((rtL n ls a b).map inL), .dsl 1 ((rtL n (twR n ls a b) a b).map inL), .v (.int .i64 0)]) [] Try.func53 Try.ntmps53 rfl (goFn_of Try.func53 rfl (by kernel_rfl)) rfl rfl rfl rfl rfl rfl rfl rfl (by simp_all) rfl ?_
  generalize (routeW n ls (mayF ls.length (twI n ls a b) (twI n ls a b).length) true a b).p = p2 at hR2 hp2
  generalize rtL n (twR n ls a b) a b = xs2 at *
  generalize rtL n ls a b = p at *
  generalize twI n ls a b = ix at *
  clear e e2 hre hre2 hRt
  unfold bkL at hC hR hA hLk hR2 ⊢
  ((repeat' (first
    | (show SQ _ _ _ _ _ _ _ _; apply sq_frz (t := 33); exact rfl; exact rfl; exact (by first | rfl | exact all_noOwn_map (fun _ => rfl) | assumption); exact (by first | omega | (simp; done) | (simp; omega)); exact (by first | exact dt_full (by first | omega | (simp; done) | (simp; omega)) | assumption | rfl); (try simp only [put, rowsOf, plR, List.all_cons, selE, ovr, setH, del, cellsA, splice, isV, List.nil_append, List.cons_append, List.map_cons, List.map_nil, List.length_cons, List.length_nil, List.set_cons_zero, List.set_cons_succ, List.take_succ_cons, List.take_zero, List.take_nil, List.drop_succ_cons, List.drop_zero, List.drop_nil, List.append_nil, List.all_cons, List.all_nil, Bool.and_true, Bool.true_and, Bool.and_false, Bool.false_and, Nat.reduceAdd, Nat.zero_add, Nat.add_zero, Nat.reduceEqDiff, if_true, if_false, reduceIte]))
    | (show SQ _ _ _ _ _ _ _ _; first | apply sq_nil | (apply q_move; exact rfl; exact rfl) | (apply q_assign; exact rfl; exact rfl) | (apply q_not; exact rfl; exact rfl) | (apply q_ext; exact rfl; exact rfl; exact rfl) | (apply q_eql; exact rfl; exact rfl; exact rfl) | (apply q_neq; exact rfl; exact rfl; exact rfl))
    | (show SQ _ _ _ _ _ _ _ _; (first | (apply q_callU; exact rfl; exact rfl; exact rfl; exact FzL.of rfl; exact hC _) | (apply q_callU; exact rfl; exact rfl; exact rfl; exact FzL.of rfl; exact hA _) | (apply q_callU; exact rfl; exact rfl; exact rfl; exact FzL.of rfl; exact hLk _) | (apply q_callC; exact rfl; exact rfl; exact rfl; exact hR _; (focus ((repeat (first | exact trivial | refine ⟨by first | exact rfl | assumption, ?_⟩)); done)); skip)); (try simp only [put, rowsOf, plR, List.all_cons, selE, ovr, setH, del, cellsA, splice, isV, List.nil_append, List.cons_append, List.map_cons, List.map_nil, List.length_cons, List.length_nil, List.set_cons_zero, List.set_cons_succ, List.take_succ_cons, List.take_zero, List.take_nil, List.drop_succ_cons, List.drop_zero, List.drop_nil, List.append_nil, List.all_cons, List.all_nil, Bool.and_true, Bool.true_and, Bool.and_false, Bool.false_and, Nat.reduceAdd, Nat.zero_add, Nat.add_zero, Nat.reduceEqDiff, if_true, if_false, reduceIte]))
    | (show AW _ _ _ _ _ _ _ _; first | refine aw_region ?_ | (refine aw_seqk ?_; intro K hK) | refine aw_block ?_ | (apply aw_cond_f; exact rfl; exact rfl) | (apply aw_cond_f; exact rfl; exact (by assumption)) | refine aw_skip ?_)
    | refine thn_n ?_
    | (refine hK _ _ _ ?_; clear hK K))); all_goals (repeat (clear hK K)))
  refine aw_loop (ρ := id) (ι := Nat) (fun i => ([(15, .v (.int .i64 i)), (13, .sl 2 0 ix.length), (12, .sl 1 0 ls.length), (10, .dsl 1 (p.map inL)), (2, .v (.int .i64 b)), (1, .v (.int .i64 a)), (0, .dptr [.v (.int .i64 n), .dsl 4 (ls.map lnL)])],
      [(1, ⟨4, 1, true, (mayF ls.length ix i).map boL⟩), (2, ⟨2, 1, true, ix.map inL⟩)], 3))
    (fun i => i ≤ ix.length) (fun i => ix.length - i) 0 (Nat.zero_le _) ⟨by (repeat (refine ⟨by first | exact lk_i rfl rfl | exact lk_d rfl rfl | exact lk_s rfl rfl rfl rfl | exact lk_p rfl rfl, ?_⟩)); exact trivial, by (repeat (refine ⟨by first | exact ⟨rfl, rfl, rfl⟩, ?_⟩)); exact trivial, by rfl, by exact pin_0⟩ ?_
  intro i hi
  have hm1 := mayF_len ls.length ix i
  have hm2 : ((mayF ls.length ix i).map boL).length = ls.length := by rw [List.length_map, hm1]
  by_cases c2 : i < ix.length
  · have b5 : decide ((i : Int) < (ix.length : Int)) = true := by simpa using c2
    have hrow : (ix.map inL)[0 + ((i : Int)).toNat]? = some (inL ix[i]) := by simp [c2]
    rw [inL_eq] at hrow
    obtain ⟨x0, x1⟩ := hix ix[i] (List.getElem_mem c2)
    have hms := mayF_succ (m := ls.length) c2
    generalize hxi : ix[i] = x at *
    have x2 : x.toNat < (mayF ls.length ix i).length := by omega
    have hrow2 : ((mayF ls.length ix i).map boL)[0 + x.toNat]? = some (boL (mayF ls.length ix i)[x.toNat]) := by simp [x2]
    rw [boL_eq] at hrow2
    have hset : ((mayF ls.length ix i).map boL).set x.toNat [.v (.bool false)] = (mayF ls.length ix (i + 1)).map boL := by rw [hms, List.map_set]; rfl
    ((repeat' (first
    | (show SQ _ _ _ _ _ _ _ _; first | apply sq_nil | (apply q_move; exact rfl; exact rfl) | (apply q_assign; exact rfl; exact rfl) | (apply q_lenl; exact rfl; exact rfl; exact (ty rfl); exact rfl) | (apply q_add; exact rfl; exact rfl; exact rfl) | (apply q_lss; exact rfl; exact rfl; exact rfl) | (apply q_ixl; exact rfl; exact rfl; exact rfl; exact (ty rfl); exact rfl; exact rfl; exact rfl; exact (by first | omega | (simp; done) | (simp; omega)); exact (by first | omega | (simp; done) | (simp; omega))) | (apply q_ld1p; exact rfl; exact rfl; exact (ty rfl); exact rfl; exact rfl; exact (by first | rfl | assumption | ((try simp only [Nat.zero_add]); refine List.getElem?_set_self ?_; (try simp only [List.length_set]); assumption)); exact rfl))
    | (show SQ _ _ _ _ _ _ _ _; (first | (apply q_store; exact rfl; exact rfl; exact (ty rfl); exact rfl; exact (by first | rfl | assumption | ((try simp only [Nat.zero_add]); refine List.getElem?_set_self ?_; (try simp only [List.length_set]); assumption)); exact rfl; exact rfl; exact rfl)); (try simp only [put, rowsOf, plR, List.all_cons, selE, ovr, setH, del, cellsA, splice, isV, List.nil_append, List.cons_append, List.map_cons, List.map_nil, List.length_cons, List.length_nil, List.set_cons_zero, List.set_cons_succ, List.take_succ_cons, List.take_zero, List.take_nil, List.drop_succ_cons, List.drop_zero, List.drop_nil, List.append_nil, List.all_cons, List.all_nil, Bool.and_true, Bool.true_and, Bool.and_false, Bool.false_and, Nat.reduceAdd, Nat.zero_add, Nat.add_zero, Nat.reduceEqDiff, if_true, if_false, reduceIte]))
    | (show AW _ _ _ _ _ _ _ _; first | refine aw_region ?_ | (refine aw_seqk ?_; intro K hK) | refine aw_block ?_ | (apply aw_cond_t; exact rfl; exact (by assumption)) | refine aw_skip ?_)
    | refine thn_n ?_
    | (refine hK _ _ _ ?_; clear hK K)
    | refine inb_n ?_)); all_goals (repeat (clear hK K)))
    all_goals (refine ⟨i + 1, id, c2, by omega, ?_⟩; (try dsimp only); rw [← hset]; exact ⟨by (repeat (refine ⟨by first | exact lk_i rfl rfl | exact lk_i rfl (by (try dsimp only); first | rfl | omega | (rw [IntWalk.i64_in _ (by omega)]; first | rfl | omega | (push_cast; omega)) | (simp; done) | (simp; omega)) | exact lk_d rfl rfl | exact lk_s rfl rfl rfl rfl | exact lk_p rfl rfl, ?_⟩)); exact trivial, by (repeat (refine ⟨by first | exact ⟨rfl, rfl, rfl⟩, ?_⟩)); exact trivial, by rfl, by exact pin_0⟩)
  · have b5 : decide ((i : Int) < (ix.length : Int)) = false := by simpa using c2
    obtain rfl : i = ix.length := by omega
    ((repeat' (first
    | (show SQ _ _ _ _ _ _ _ _; apply sq_frz (t := 63); exact rfl; exact rfl; exact (by first | rfl | exact all_noOwn_map (fun _ => rfl) | assumption); exact (by first | omega | (simp; done) | (simp; omega)); exact (by first | exact dt_full (by first | omega | (simp; done) | (simp; omega)) | assumption | rfl); (try simp only [put, rowsOf, plR, List.all_cons, selE, ovr, setH, del, cellsA, splice, isV, List.nil_append, List.cons_append, List.map_cons, List.map_nil, List.length_cons, List.length_nil, List.set_cons_zero, List.set_cons_succ, List.take_succ_cons, List.take_zero, List.take_nil, List.drop_succ_cons, List.drop_zero, List.drop_nil, List.append_nil, List.all_cons, List.all_nil, Bool.and_true, Bool.true_and, Bool.and_false, Bool.false_and, Nat.reduceAdd, Nat.zero_add, Nat.add_zero, Nat.reduceEqDiff, if_true, if_false, reduceIte]))
    | (show SQ _ _ _ _ _ _ _ _; first | apply sq_nil | (apply q_move; exact rfl; exact rfl) | (apply q_assign; exact rfl; exact rfl) | (apply q_not; exact rfl; exact rfl) | (apply q_ext; exact rfl; exact rfl; exact rfl) | (apply q_lenl; exact rfl; exact rfl; exact (ty rfl); exact rfl) | (apply q_lss; exact rfl; exact rfl; exact rfl))
    | (show SQ _ _ _ _ _ _ _ _; (first | (apply q_callC; exact rfl; exact rfl; exact rfl; exact hR2 _; (focus ((repeat (first | exact trivial | refine ⟨by first | exact rfl | assumption, ?_⟩)); done)); skip)); (try simp only [put, rowsOf, plR, List.all_cons, selE, ovr, setH, del, cellsA, splice, isV, List.nil_append, List.cons_append, List.map_cons, List.map_nil, List.length_cons, List.length_nil, List.set_cons_zero, List.set_cons_succ, List.take_succ_cons, List.take_zero, List.take_nil, List.drop_succ_cons, List.drop_zero, List.drop_nil, List.append_nil, List.all_cons, List.all_nil, Bool.and_true, Bool.true_and, Bool.and_false, Bool.false_and, Nat.reduceAdd, Nat.zero_add, Nat.add_zero, Nat.reduceEqDiff, if_true, if_false, reduceIte]))
    | (show AW _ _ _ _ _ _ _ _; first | refine aw_region ?_ | (refine aw_seqk ?_; intro K hK) | (apply aw_cond_f; exact rfl; exact rfl) | (apply aw_cond_f; exact rfl; exact (by assumption)) | refine aw_ret ?_ | refine aw_exit ?_ | refine aw_skip ?_)
    | refine thn_n ?_
    | (refine hK _ _ _ ?_; clear hK K)
    | refine thn_e ?_
    | refine inb_same ?_
    | (clear hK K; refine hK _ _ _ ?_; clear hK K))); all_goals (repeat (clear hK K)))
    all_goals (try rw [hp2 rfl])
    all_goals exact finc id (.r3 _ _ _ _ _ _ (.tmp _ _ rfl) (.tmp _ _ rfl) (.tmp _ _ rfl)) (by simp only [renA, renL]) (fun _ h => absurd h (Nat.not_lt_zero _)) trivial rfl
end
end Go.Proofs.Ytglfcaioapdiaaa.Bk

-- Backup routes and outages of pairs: both functions.
namespace Go.Proofs.Ytglfcaioapdiaaa.Bk
open Go Go.RowKit Go.Proofs.Ytglfcaioapdiaaa.Aw
set_option linter.unusedSimpArgs false
set_option linter.unusedVariables false
attribute [local irreducible] AW SQ Step RO RC DE Thn InB

section
variable (n : Int) (ls : List Ln) (a b : Int) (hn : ls.length ≤ 1048576)
include hn
set_option maxHeartbeats 4000000 in
theorem Backup_bad_ro (hc : codeV n ls [a, b] ≠ 0) (k : Nat) : RO Try.prog 22 [.agg (bkL n ls), .v (.int .i64 a), .v (.int .i64 b)] k (.tup [.v (.slice none 0 0), .v (.int .i64 (codeV n ls [a, b]))]) [] k := by
  have hC := code2_ro n ls a b hn
  have b1 : (codeV n ls [a, b] != 0) = true := by simpa using hc
  generalize codeV n ls [a, b] = c at *
  unfold bkL at hC ⊢
  refine RO.ofp Try.func22 Try.ntmps22 rfl (goFn_of Try.func22 rfl (by kernel_rfl)) rfl rfl rfl ?_
  ((repeat' (first
    | (show SQ _ _ _ _ _ _ _ _; first | apply sq_nil | (apply q_move; exact rfl; exact rfl) | (apply q_assign; exact rfl; exact rfl) | (apply q_neq; exact rfl; exact rfl; exact rfl))
    | (show SQ _ _ _ _ _ _ _ _; (first | (apply q_ldap; exact rfl; exact rfl; exact (ty rfl); exact rfl; exact rfl; exact (by first | rfl | assumption | ((try simp only [Nat.zero_add]); refine List.getElem?_set_self ?_; (try simp only [List.length_set]); assumption)); exact rfl) | (apply q_box; exact rfl; exact rfl; exact rfl) | (apply q_buildn; exact rfl; exact (ty rfl); exact rfl; exact rfl; exact rfl; exact rfl; exact rfl; exact rfl; exact rfl) | (apply q_callU; exact rfl; exact rfl; exact rfl; exact FzL.of rfl; exact hC _)); (try simp only [put, rowsOf, plR, List.all_cons, selE, ovr, setH, del, cellsA, splice, isV, List.nil_append, List.cons_append, List.map_cons, List.map_nil, List.length_cons, List.length_nil, List.set_cons_zero, List.set_cons_succ, List.take_succ_cons, List.take_zero, List.take_nil, List.drop_succ_cons, List.drop_zero, List.drop_nil, List.append_nil, List.all_cons, List.all_nil, Bool.and_true, Bool.true_and, Bool.and_false, Bool.false_and, Nat.reduceAdd, Nat.zero_add, Nat.add_zero, Nat.reduceEqDiff, if_true, if_false, reduceIte]))
    | (show AW _ _ _ _ _ _ _ _; first | refine aw_region ?_ | (refine aw_seqk ?_; intro K hK) | refine aw_block ?_ | (apply aw_cond_t; exact rfl; exact (by assumption)) | refine aw_ret ?_)
    | refine thn_n ?_
    | (refine hK _ _ _ ?_; clear hK K)
    | refine thn_r ?_
    | refine inb_r ?_)); all_goals (repeat (clear hK K)))
  all_goals refine fin_r (fin_p (.r2 _ _ _ _ (.tmp _ _ rfl) (.tmp _ _ rfl)) ?_ rfl rfl rfl)
  all_goals rfl
set_option maxHeartbeats 4000000 in
theorem Backup_same_ro (hc : codeV n ls [a, b] = 0) (he : a = b) (k : Nat) : RO Try.prog 22 [.agg (bkL n ls), .v (.int .i64 a), .v (.int .i64 b)] k (.tup [.v (.slice none 0 0), .v (.int .i64 6)]) [] k := by
  have hC := code2_ro n ls a b hn
  rw [hc] at hC
  have b1 : ((0 : Int) != 0) = false := by simp
  have b2 : (a == b) = true := by simpa using he
  unfold bkL at hC ⊢
  refine RO.ofp Try.func22 Try.ntmps22 rfl (goFn_of Try.func22 rfl (by kernel_rfl)) rfl rfl rfl ?_
  ((repeat' (first
    | (show SQ _ _ _ _ _ _ _ _; first | apply sq_nil | (apply q_move; exact rfl; exact rfl) | (apply q_assign; exact rfl; exact rfl) | (apply q_eql; exact rfl; exact rfl; exact rfl) | (apply q_neq; exact rfl; exact rfl; exact rfl))
    | (show SQ _ _ _ _ _ _ _ _; (first | (apply q_ldap; exact rfl; exact rfl; exact (ty rfl); exact rfl; exact rfl; exact (by first | rfl | assumption | ((try simp only [Nat.zero_add]); refine List.getElem?_set_self ?_; (try simp only [List.length_set]); assumption)); exact rfl) | (apply q_box; exact rfl; exact rfl; exact rfl) | (apply q_buildn; exact rfl; exact (ty rfl); exact rfl; exact rfl; exact rfl; exact rfl; exact rfl; exact rfl; exact rfl) | (apply q_callU; exact rfl; exact rfl; exact rfl; exact FzL.of rfl; exact hC _)); (try simp only [put, rowsOf, plR, List.all_cons, selE, ovr, setH, del, cellsA, splice, isV, List.nil_append, List.cons_append, List.map_cons, List.map_nil, List.length_cons, List.length_nil, List.set_cons_zero, List.set_cons_succ, List.take_succ_cons, List.take_zero, List.take_nil, List.drop_succ_cons, List.drop_zero, List.drop_nil, List.append_nil, List.all_cons, List.all_nil, Bool.and_true, Bool.true_and, Bool.and_false, Bool.false_and, Nat.reduceAdd, Nat.zero_add, Nat.add_zero, Nat.reduceEqDiff, if_true, if_false, reduceIte]))
    | (show AW _ _ _ _ _ _ _ _; first | refine aw_region ?_ | (refine aw_seqk ?_; intro K hK) | refine aw_block ?_ | (apply aw_cond_f; exact rfl; exact rfl) | (apply aw_cond_t; exact rfl; exact (by assumption)) | refine aw_ret ?_)
    | refine thn_n ?_
    | (refine hK _ _ _ ?_; clear hK K)
    | refine thn_r ?_
    | refine inb_r ?_)); all_goals (repeat (clear hK K)))
  all_goals refine fin_r (fin_p (.r2 _ _ _ _ (.tmp _ _ rfl) (.tmp _ _ rfl)) ?_ rfl rfl rfl)
  all_goals rfl
set_option maxHeartbeats 4000000 in
theorem Backup_none_ro (hc : codeV n ls [a, b] = 0) (he : a ≠ b) (hh : fh (farR n ls b) a = false ∨ (fh (farR n ls b) a = true ∧ fh (farR n (twR n ls a b) b) a = false)) (k : Nat) : RO Try.prog 22 [.agg (bkL n ls), .v (.int .i64 a), .v (.int .i64 b)] k (.tup [.v (.slice none 0 0), .v (.int .i64 3)]) [] k := by
  have hC := code2_ro n ls a b hn
  obtain ⟨hN, hL, ha, hb, _⟩ := codeV_ok hc
  rw [hc] at hC
  have b1 : ((0 : Int) != 0) = false := by simp
  have b2 : (a == b) = false := by simpa using he
  rcases hh with hh | ⟨hh, hh2⟩
  · have hT := twoRoutes_nil_ro n ls a b hN hn hL ha hb hh
    unfold bkL at hC hT ⊢
    refine RO.ofp Try.func22 Try.ntmps22 rfl (goFn_of Try.func22 rfl (by kernel_rfl)) rfl rfl rfl ?_
    ((repeat' (first
    | (show SQ _ _ _ _ _ _ _ _; first | apply sq_nil | (apply q_move; exact rfl; exact rfl) | (apply q_assign; exact rfl; exact rfl) | (apply q_ext; exact rfl; exact rfl; exact rfl) | (apply q_eql; exact rfl; exact rfl; exact rfl) | (apply q_neq; exact rfl; exact rfl; exact rfl) | (apply q_nil_ev; exact rfl; exact rfl; exact rfl; exact (ty rfl); exact rfl))
    | (show SQ _ _ _ _ _ _ _ _; (first | (apply q_ldap; exact rfl; exact rfl; exact (ty rfl); exact rfl; exact rfl; exact (by first | rfl | assumption | ((try simp only [Nat.zero_add]); refine List.getElem?_set_self ?_; (try simp only [List.length_set]); assumption)); exact rfl) | (apply q_box; exact rfl; exact rfl; exact rfl) | (apply q_buildn; exact rfl; exact (ty rfl); exact rfl; exact rfl; exact rfl; exact rfl; exact rfl; exact rfl; exact rfl) | (apply q_callU; exact rfl; exact rfl; exact rfl; exact FzL.of rfl; exact hC _) | (apply q_callU; exact rfl; exact rfl; exact rfl; exact FzL.of rfl; exact hT _)); (try simp only [put, rowsOf, plR, List.all_cons, selE, ovr, setH, del, cellsA, splice, isV, List.nil_append, List.cons_append, List.map_cons, List.map_nil, List.length_cons, List.length_nil, List.set_cons_zero, List.set_cons_succ, List.take_succ_cons, List.take_zero, List.take_nil, List.drop_succ_cons, List.drop_zero, List.drop_nil, List.append_nil, List.all_cons, List.all_nil, Bool.and_true, Bool.true_and, Bool.and_false, Bool.false_and, Nat.reduceAdd, Nat.zero_add, Nat.add_zero, Nat.reduceEqDiff, if_true, if_false, reduceIte]))
    | (show AW _ _ _ _ _ _ _ _; first | refine aw_region ?_ | (refine aw_seqk ?_; intro K hK) | refine aw_block ?_ | (apply aw_cond_t; exact rfl; exact rfl) | (apply aw_cond_f; exact rfl; exact rfl) | (apply aw_cond_f; exact rfl; exact (by assumption)) | refine aw_ret ?_ | refine aw_skip ?_)
    | refine thn_n ?_
    | (refine hK _ _ _ ?_; clear hK K)
    | refine thn_r ?_
    | refine inb_n ?_)); all_goals (repeat (clear hK K)))
    all_goals refine fin_r (fin_p (.r2 _ _ _ _ (.tmp _ _ rfl) (.tmp _ _ rfl)) ?_ rfl rfl rfl)
    all_goals rfl
  · have hT := twoRoutes_none_ro n ls a b hN hn hL ha hb hh hh2
    unfold bkL at hC hT ⊢
    refine RO.ofp Try.func22 Try.ntmps22 rfl (goFn_of Try.func22 rfl (by kernel_rfl)) rfl rfl rfl ?_
    ((repeat' (first
    | (show SQ _ _ _ _ _ _ _ _; first | apply sq_nil | (apply q_move; exact rfl; exact rfl) | (apply q_assign; exact rfl; exact rfl) | (apply q_ext; exact rfl; exact rfl; exact rfl) | (apply q_eql; exact rfl; exact rfl; exact rfl) | (apply q_neq; exact rfl; exact rfl; exact rfl) | (apply q_nil_ev; exact rfl; exact rfl; exact rfl; exact (ty rfl); exact rfl))
    | (show SQ _ _ _ _ _ _ _ _; (first | (apply q_ldap; exact rfl; exact rfl; exact (ty rfl); exact rfl; exact rfl; exact (by first | rfl | assumption | ((try simp only [Nat.zero_add]); refine List.getElem?_set_self ?_; (try simp only [List.length_set]); assumption)); exact rfl) | (apply q_box; exact rfl; exact rfl; exact rfl) | (apply q_buildn; exact rfl; exact (ty rfl); exact rfl; exact rfl; exact rfl; exact rfl; exact rfl; exact rfl; exact rfl) | (apply q_callU; exact rfl; exact rfl; exact rfl; exact FzL.of rfl; exact hC _) | (apply q_callU; exact rfl; exact rfl; exact rfl; exact FzL.of rfl; exact hT _)); (try simp only [put, rowsOf, plR, List.all_cons, selE, ovr, setH, del, cellsA, splice, isV, List.nil_append, List.cons_append, List.map_cons, List.map_nil, List.length_cons, List.length_nil, List.set_cons_zero, List.set_cons_succ, List.take_succ_cons, List.take_zero, List.take_nil, List.drop_succ_cons, List.drop_zero, List.drop_nil, List.append_nil, List.all_cons, List.all_nil, Bool.and_true, Bool.true_and, Bool.and_false, Bool.false_and, Nat.reduceAdd, Nat.zero_add, Nat.add_zero, Nat.reduceEqDiff, if_true, if_false, reduceIte]))
    | (show AW _ _ _ _ _ _ _ _; first | refine aw_region ?_ | (refine aw_seqk ?_; intro K hK) | refine aw_block ?_ | (apply aw_cond_t; exact rfl; exact rfl) | (apply aw_cond_f; exact rfl; exact rfl) | (apply aw_cond_f; exact rfl; exact (by assumption)) | refine aw_ret ?_ | refine aw_skip ?_)
    | refine thn_n ?_
    | (refine hK _ _ _ ?_; clear hK K)
    | refine thn_r ?_
    | refine inb_n ?_)); all_goals (repeat (clear hK K)))
    all_goals refine fin_r (fin_p (.r2 _ _ _ _ (.tmp _ _ rfl) (.tmp _ _ rfl)) ?_ rfl rfl rfl)
    all_goals rfl
set_option maxHeartbeats 4000000 in
theorem Backup_some_ro (hc : codeV n ls [a, b] = 0) (he : a ≠ b) (hh : fh (farR n ls b) a = true) (hh2 : fh (farR n (twR n ls a b) b) a = true) (k : Nat) : RO Try.prog 22 [.agg (bkL n ls), .v (.int .i64 a), .v (.int .i64 b)] k (.tup [.sl k 0 (rtN n (twR n ls a b) a b), .v (.int .i64 0)]) [(k, ⟨2, 1, true, (rtL n (twR n ls a b) a b).map inL⟩)] (k + 1) := by
  have hC := code2_ro n ls a b hn
  obtain ⟨hN, hL, ha, hb, _⟩ := codeV_ok hc
  rw [hc] at hC
  have b1 : ((0 : Int) != 0) = false := by simp
  have b2 : (a == b) = false := by simpa using he
  have hT := twoRoutes_both_ro n ls a b hN hn hL ha hb hh hh2
  have h0 : 0 < rtN n (twR n ls a b) a b := Nat.succ_pos _
  refine RO.ofm (.tup [.sl 0 0 (rtN n (twR n ls a b) a b), .v (.int .i64 0)]) ([(0, ⟨2, 1, true, (rtL n (twR n ls a b) a b).map inL⟩)]) 1 Try.func22 Try.ntmps22 rfl (goFn_of Try.func22 rfl (by kernel_rfl)) rfl rfl (by simp [renA, renL]) (by simp [shH, renB]) rfl ?_
  generalize rtN n (twR n ls a b) a b = L2 at *
  generalize rtL n (twR n ls a b) a b = xs2 at *
  generalize rtN n ls a b = L at *
  generalize rtL n ls a b = xs at *
  unfold bkL at hC hT ⊢
  ((repeat' (first
    | (show SQ _ _ _ _ _ _ _ _; first | apply sq_nil | (apply q_move; exact rfl; exact rfl) | (apply q_assign; exact rfl; exact rfl) | (apply q_ext; exact rfl; exact rfl; exact rfl) | (apply q_eql; exact rfl; exact rfl; exact rfl) | (apply q_neq; exact rfl; exact rfl; exact rfl) | (apply q_nil_el; exact rfl; exact rfl; exact rfl; exact (ty rfl); exact rfl; exact (by first | omega | (simp; done) | (simp; omega))))
    | (show SQ _ _ _ _ _ _ _ _; (first | (apply q_ldap; exact rfl; exact rfl; exact (ty rfl); exact rfl; exact rfl; exact (by first | rfl | assumption | ((try simp only [Nat.zero_add]); refine List.getElem?_set_self ?_; (try simp only [List.length_set]); assumption)); exact rfl) | (apply q_box; exact rfl; exact rfl; exact rfl) | (apply q_buildn; exact rfl; exact (ty rfl); exact rfl; exact rfl; exact rfl; exact rfl; exact rfl; exact rfl; exact rfl) | (apply q_callU; exact rfl; exact rfl; exact rfl; exact FzL.of rfl; exact hC _) | (apply q_callU; exact rfl; exact rfl; exact rfl; exact FzL.of rfl; exact hT _)); (try simp only [put, rowsOf, plR, List.all_cons, selE, ovr, setH, del, cellsA, splice, isV, List.nil_append, List.cons_append, List.map_cons, List.map_nil, List.length_cons, List.length_nil, List.set_cons_zero, List.set_cons_succ, List.take_succ_cons, List.take_zero, List.take_nil, List.drop_succ_cons, List.drop_zero, List.drop_nil, List.append_nil, List.all_cons, List.all_nil, Bool.and_true, Bool.true_and, Bool.and_false, Bool.false_and, Nat.reduceAdd, Nat.zero_add, Nat.add_zero, Nat.reduceEqDiff, if_true, if_false, reduceIte]))
    | (show AW _ _ _ _ _ _ _ _; first | refine aw_region ?_ | (refine aw_seqk ?_; intro K hK) | refine aw_block ?_ | (apply aw_cond_f; exact rfl; exact rfl) | (apply aw_cond_f; exact rfl; exact (by assumption)) | refine aw_ret ?_ | refine aw_skip ?_)
    | refine thn_n ?_
    | (refine hK _ _ _ ?_; clear hK K)
    | refine inb_n ?_)); all_goals (repeat (clear hK K)))
  all_goals exact fin_r (fin_m2 rfl rfl rfl _ _ rfl rfl rfl)
set_option maxHeartbeats 4000000 in
theorem specBackup_bad_ro (hc : codeV n ls [a, b] ≠ 0) (k : Nat) : RO Try.prog 21 [.agg (bkL n ls), .v (.int .i64 a), .v (.int .i64 b)] k (.tup [.v (.slice none 0 0), .v (.int .i64 (codeV n ls [a, b]))]) [] k := by
  have hT := l25Two_bad_ro n ls a b hn hc
  have b1 : (codeV n ls [a, b] != 0) = true := by simpa using hc
  generalize codeV n ls [a, b] = c at *
  unfold bkL at hT ⊢
  refine RO.ofp Try.func21 Try.ntmps21 rfl (goFn_of Try.func21 rfl (by kernel_rfl)) rfl rfl rfl ?_
  ((repeat' (first
    | (show SQ _ _ _ _ _ _ _ _; first | apply sq_nil | (apply q_move; exact rfl; exact rfl) | (apply q_assign; exact rfl; exact rfl) | (apply q_ext; exact rfl; exact rfl; exact rfl) | (apply q_neq; exact rfl; exact rfl; exact rfl))
    | (show SQ _ _ _ _ _ _ _ _; (first | (apply q_box; exact rfl; exact rfl; exact rfl) | (apply q_callU; exact rfl; exact rfl; exact rfl; exact FzL.of rfl; exact hT _)); (try simp only [put, rowsOf, plR, List.all_cons, selE, ovr, setH, del, cellsA, splice, isV, List.nil_append, List.cons_append, List.map_cons, List.map_nil, List.length_cons, List.length_nil, List.set_cons_zero, List.set_cons_succ, List.take_succ_cons, List.take_zero, List.take_nil, List.drop_succ_cons, List.drop_zero, List.drop_nil, List.append_nil, List.all_cons, List.all_nil, Bool.and_true, Bool.true_and, Bool.and_false, Bool.false_and, Nat.reduceAdd, Nat.zero_add, Nat.add_zero, Nat.reduceEqDiff, if_true, if_false, reduceIte]))
    | (show AW _ _ _ _ _ _ _ _; first | refine aw_region ?_ | (refine aw_seqk ?_; intro K hK) | (apply aw_cond_t; exact rfl; exact (by assumption)) | refine aw_ret ?_)
    | refine thn_n ?_
    | (refine hK _ _ _ ?_; clear hK K)
    | refine thn_r ?_)); all_goals (repeat (clear hK K)))
  all_goals refine fin_r (fin_p (.r2 _ _ _ _ (.tmp _ _ rfl) (.tmp _ _ rfl)) ?_ rfl rfl rfl)
  all_goals rfl
set_option maxHeartbeats 4000000 in
theorem specBackup_same_ro (hc : codeV n ls [a, b] = 0) (he : a = b) (k : Nat) : RO Try.prog 21 [.agg (bkL n ls), .v (.int .i64 a), .v (.int .i64 b)] k (.tup [.v (.slice none 0 0), .v (.int .i64 6)]) [] k := by
  have hT := l25Two_same_ro n ls a b hn hc he
  have b1 : ((6 : Int) != 0) = true := by simp
  unfold bkL at hT ⊢
  refine RO.ofp Try.func21 Try.ntmps21 rfl (goFn_of Try.func21 rfl (by kernel_rfl)) rfl rfl rfl ?_
  ((repeat' (first
    | (show SQ _ _ _ _ _ _ _ _; first | apply sq_nil | (apply q_move; exact rfl; exact rfl) | (apply q_assign; exact rfl; exact rfl) | (apply q_ext; exact rfl; exact rfl; exact rfl) | (apply q_neq; exact rfl; exact rfl; exact rfl))
    | (show SQ _ _ _ _ _ _ _ _; (first | (apply q_box; exact rfl; exact rfl; exact rfl) | (apply q_callU; exact rfl; exact rfl; exact rfl; exact FzL.of rfl; exact hT _)); (try simp only [put, rowsOf, plR, List.all_cons, selE, ovr, setH, del, cellsA, splice, isV, List.nil_append, List.cons_append, List.map_cons, List.map_nil, List.length_cons, List.length_nil, List.set_cons_zero, List.set_cons_succ, List.take_succ_cons, List.take_zero, List.take_nil, List.drop_succ_cons, List.drop_zero, List.drop_nil, List.append_nil, List.all_cons, List.all_nil, Bool.and_true, Bool.true_and, Bool.and_false, Bool.false_and, Nat.reduceAdd, Nat.zero_add, Nat.add_zero, Nat.reduceEqDiff, if_true, if_false, reduceIte]))
    | (show AW _ _ _ _ _ _ _ _; first | refine aw_region ?_ | (refine aw_seqk ?_; intro K hK) | (apply aw_cond_t; exact rfl; exact rfl) | refine aw_ret ?_)
    | refine thn_n ?_
    | (refine hK _ _ _ ?_; clear hK K)
    | refine thn_r ?_)); all_goals (repeat (clear hK K)))
  all_goals refine fin_r (fin_p (.r2 _ _ _ _ (.tmp _ _ rfl) (.tmp _ _ rfl)) ?_ rfl rfl rfl)
  all_goals rfl
set_option maxHeartbeats 4000000 in
theorem l25Two_no_ro (hc : codeV n ls [a, b] = 0) (he : a ≠ b) (hh : fh (farR n ls b) a = false ∨ (fh (farR n ls b) a = true ∧ fh (farR n (twR n ls a b) b) a = false)) (k : Nat) : RO Try.prog 53 [.dptr (bkL n ls), .v (.int .i64 a), .v (.int .i64 b)] k (.tup [.v (.slice none 0 0), .v (.slice none 0 0), .v (.int .i64 3)]) [] k := by
  rcases hh with hh | ⟨hh, hh2⟩
  · exact l25Two_none_ro n ls a b hn hc he hh k
  · exact l25Two_one_rc n ls a b hn hc he hh hh2 k
set_option maxHeartbeats 4000000 in
theorem specBackup_none_ro (hc : codeV n ls [a, b] = 0) (he : a ≠ b) (hh : fh (farR n ls b) a = false ∨ (fh (farR n ls b) a = true ∧ fh (farR n (twR n ls a b) b) a = false)) (k : Nat) : RO Try.prog 21 [.agg (bkL n ls), .v (.int .i64 a), .v (.int .i64 b)] k (.tup [.v (.slice none 0 0), .v (.int .i64 3)]) [] k := by
  have hT := l25Two_no_ro n ls a b hn hc he hh
  have b1 : ((3 : Int) != 0) = true := by simp
  unfold bkL at hT ⊢
  refine RO.ofp Try.func21 Try.ntmps21 rfl (goFn_of Try.func21 rfl (by kernel_rfl)) rfl rfl rfl ?_
  ((repeat' (first
    | (show SQ _ _ _ _ _ _ _ _; first | apply sq_nil | (apply q_move; exact rfl; exact rfl) | (apply q_assign; exact rfl; exact rfl) | (apply q_ext; exact rfl; exact rfl; exact rfl) | (apply q_neq; exact rfl; exact rfl; exact rfl))
    | (show SQ _ _ _ _ _ _ _ _; (first | (apply q_box; exact rfl; exact rfl; exact rfl) | (apply q_callU; exact rfl; exact rfl; exact rfl; exact FzL.of rfl; exact hT _)); (try simp only [put, rowsOf, plR, List.all_cons, selE, ovr, setH, del, cellsA, splice, isV, List.nil_append, List.cons_append, List.map_cons, List.map_nil, List.length_cons, List.length_nil, List.set_cons_zero, List.set_cons_succ, List.take_succ_cons, List.take_zero, List.take_nil, List.drop_succ_cons, List.drop_zero, List.drop_nil, List.append_nil, List.all_cons, List.all_nil, Bool.and_true, Bool.true_and, Bool.and_false, Bool.false_and, Nat.reduceAdd, Nat.zero_add, Nat.add_zero, Nat.reduceEqDiff, if_true, if_false, reduceIte]))
    | (show AW _ _ _ _ _ _ _ _; first | refine aw_region ?_ | (refine aw_seqk ?_; intro K hK) | (apply aw_cond_t; exact rfl; exact rfl) | refine aw_ret ?_)
    | refine thn_n ?_
    | (refine hK _ _ _ ?_; clear hK K)
    | refine thn_r ?_)); all_goals (repeat (clear hK K)))
  all_goals refine fin_r (fin_p (.r2 _ _ _ _ (.tmp _ _ rfl) (.tmp _ _ rfl)) ?_ rfl rfl rfl)
  all_goals rfl
set_option maxHeartbeats 4000000 in
theorem specBackup_some_rc (hc : codeV n ls [a, b] = 0) (he : a ≠ b) (hh : fh (farR n ls b) a = true) (hh2 : fh (farR n (twR n ls a b) b) a = true) (k : Nat) : RC Try.prog 21 [.agg (bkL n ls), .v (.int .i64 a), .v (.int .i64 b)] [] k (.tup [.dsl 1 ((rtL n (twR n ls a b) a b).map inL), .v (.int .i64 0)]) [] k := by
  have hT := l25Two_both_rc n ls a b hn hc he hh hh2
  have b1 : ((0 : Int) != 0) = false := by simp
  refine RC.ofc [] 0 [.agg (bkL n ls), .v (.int .i64 a), .v (.int .i64 b)] [] (.tup [.dsl 1 ((rtL n (twR n ls a b) a b).map inL), .v (.int .i64 0)]) [] Try.func21 Try.ntmps21 rfl (goFn_of Try.func21 rfl (by kernel_rfl)) rfl rfl rfl rfl rfl rfl rfl rfl (by simp_all) rfl ?_
  generalize rtL n (twR n ls a b) a b = xs2 at *
  generalize rtL n ls a b = xs at *
  unfold bkL at hT ⊢
  ((repeat' (first
    | (show SQ _ _ _ _ _ _ _ _; apply sq_frzp (t := 3); exact rfl; exact rfl; exact (by first | rfl | exact all_noOwn_map (fun _ => rfl) | assumption); exact (by first | rfl | assumption); exact rfl; (try simp only [put, rowsOf, plR, List.all_cons, selE, ovr, setH, del, cellsA, splice, isV, List.nil_append, List.cons_append, List.map_cons, List.map_nil, List.length_cons, List.length_nil, List.set_cons_zero, List.set_cons_succ, List.take_succ_cons, List.take_zero, List.take_nil, List.drop_succ_cons, List.drop_zero, List.drop_nil, List.append_nil, List.all_cons, List.all_nil, Bool.and_true, Bool.true_and, Bool.and_false, Bool.false_and, Nat.reduceAdd, Nat.zero_add, Nat.add_zero, Nat.reduceEqDiff, if_true, if_false, reduceIte]))
    | (show SQ _ _ _ _ _ _ _ _; first | apply sq_nil | (apply q_move; exact rfl; exact rfl) | (apply q_assign; exact rfl; exact rfl) | (apply q_ext; exact rfl; exact rfl; exact rfl) | (apply q_neq; exact rfl; exact rfl; exact rfl))
    | (show SQ _ _ _ _ _ _ _ _; (first | (apply q_box; exact rfl; exact rfl; exact rfl) | (apply q_callC; exact rfl; exact rfl; exact rfl; exact hT _; (focus ((repeat (first | exact trivial | refine ⟨by first | exact rfl | assumption, ?_⟩)); done)); skip)); (try simp only [put, rowsOf, plR, List.all_cons, selE, ovr, setH, del, cellsA, splice, isV, List.nil_append, List.cons_append, List.map_cons, List.map_nil, List.length_cons, List.length_nil, List.set_cons_zero, List.set_cons_succ, List.take_succ_cons, List.take_zero, List.take_nil, List.drop_succ_cons, List.drop_zero, List.drop_nil, List.append_nil, List.all_cons, List.all_nil, Bool.and_true, Bool.true_and, Bool.and_false, Bool.false_and, Nat.reduceAdd, Nat.zero_add, Nat.add_zero, Nat.reduceEqDiff, if_true, if_false, reduceIte]))
    | (show AW _ _ _ _ _ _ _ _; first | refine aw_region ?_ | (refine aw_seqk ?_; intro K hK) | (apply aw_cond_f; exact rfl; exact rfl) | refine aw_ret ?_ | refine aw_skip ?_)
    | refine thn_n ?_
    | (refine hK _ _ _ ?_; clear hK K))); all_goals (repeat (clear hK K)))
  all_goals exact finc id (.r2 _ _ _ _ (.tmp _ _ rfl) (.tmp _ _ rfl)) (by simp only [renA, renL]) (fun _ h => absurd h (Nat.not_lt_zero _)) trivial rfl
end
end Go.Proofs.Ytglfcaioapdiaaa.Bk
