/-
  What the law FnExactCodeClashes rests on, part 4.
-/
import Derived.Test.YteknfaldpajlpaaZFnExactCodeClashes3
namespace Go.Proofs.Yteknfaldpajlpaa.Nb
open Go Go.RowKit Go.Proofs.Yteknfaldpajlpaa.Aw Go.Proofs.Yteknfaldpajlpaa.In Go.Proofs.Yteknfaldpajlpaa.Il Go.Proofs.Yteknfaldpajlpaa.Sr
set_option linter.unusedSimpArgs false
set_option linter.unusedVariables false
set_option linter.unusedSectionVars false
attribute [local irreducible] AW SQ Step RO RC DE Thn InB
set_option maxHeartbeats 4000000 in
theorem l23Ok_ro (ls : List (List Int)) (hS : NbS ls) (k : Nat) : RO Try.prog 39 [.dsl 1 (nbL ls)] k (.v (.bool (nbB ls))) [] k := by
  have hl := nbL_len ls
  by_cases c0 : 24 < ls.length
  · have b0 : decide ((24 : Int) < ((nbL ls).length : Int)) = true := by rw [hl]; simp; omega
    refine RO.ofv' Try.func39 Try.ntmps39 rfl (goFn_of Try.func39 rfl (by kernel_rfl)) rfl rfl ?_
    ((repeat' (first
    | (show SQ _ _ _ _ _ _ _ _; first | apply sq_nil | (apply q_move; exact rfl; exact rfl) | (apply q_assign; exact rfl; exact rfl) | (apply q_lend; exact rfl; exact rfl; exact (ty rfl); exact rfl) | (apply q_gtr; exact rfl; exact rfl; exact rfl))
    | (show AW _ _ _ _ _ _ _ _; first | refine aw_region ?_ | (refine aw_seqk ?_; intro K hK) | (apply aw_cond_t; exact rfl; exact (by assumption)) | refine aw_ret ?_)
    | refine thn_n ?_
    | (refine hK _ _ _ ?_; clear hK K)
    | refine thn_r ?_)); all_goals (repeat (clear hK K)))
    all_goals refine fin_r (fin_b rfl ?_)
    simp [nbB]; omega
  have b0 : decide ((24 : Int) < ((nbL ls).length : Int)) = false := by rw [hl]; simp; omega
  have hdec : decide (ls.length ≤ 24) = true := by simp; omega
  refine RO.ofv' Try.func39 Try.ntmps39 rfl (goFn_of Try.func39 rfl (by kernel_rfl)) rfl rfl ?_
  ((repeat' (first
    | (show SQ _ _ _ _ _ _ _ _; first | apply sq_nil | (apply q_move; exact rfl; exact rfl) | (apply q_assign; exact rfl; exact rfl) | (apply q_lend; exact rfl; exact rfl; exact (ty rfl); exact rfl) | (apply q_gtr; exact rfl; exact rfl; exact rfl))
    | (show AW _ _ _ _ _ _ _ _; first | refine aw_region ?_ | (refine aw_seqk ?_; intro K hK) | refine aw_block ?_ | (apply aw_cond_f; exact rfl; exact (by assumption)) | refine aw_skip ?_)
    | refine thn_n ?_
    | (refine hK _ _ _ ?_; clear hK K))); all_goals (repeat (clear hK K)))
  refine aw_loop (ρ := id) (ι := Nat) (fun i => ([(4, .v (.int .i64 i)), (3, .v (.int .i64 ls.length)), (0, .dsl 1 (nbL ls))], [], 0))
    (fun i => i ≤ ls.length ∧ ∀ j, j < i → nbG ls j = true) (fun i => ls.length - i) 0 ⟨Nat.zero_le _, fun j hj => absurd hj (Nat.not_lt_zero _)⟩ ⟨by (repeat (refine ⟨by first | exact lk_i rfl rfl | exact lk_i rfl (by (try dsimp only); first | rfl | omega | (rw [IntWalk.i64_in _ (by omega)]; first | rfl | omega | (push_cast; omega)) | (simp; done) | (simp; omega)) | exact lk_d rfl rfl, ?_⟩)); exact trivial, by exact trivial, by rfl, by exact pin_0⟩ ?_
  rintro i ⟨hi, hg⟩
  by_cases c1 : i < ls.length
  · have b1 : decide ((i : Int) < (ls.length : Int)) = true := by simpa using c1
    have hrow := nbL_get c1
    have hD : ls.getD i [] = ls[i] := by simp [List.getD, c1]
    have hm := hS.m _ (List.getElem_mem c1)
    have hG : nbG ls i = (risB ls[i] 0 ((ls.length : Int) - 1) && !(ls[i].any fun y => y == (i : Int))) := by rw [nbG, hD, risB_eq]
    have hwl : IntKind.i64.wrap ((ls.length : Int) - 1) = (ls.length : Int) - 1 := IntWalk.i64_in _ (by omega)
    have hw : IntKind.i64.wrap ((i : Int) + 1) = ((i + 1 : Nat) : Int) := by rw [IntWalk.i64_in _ (by omega)]; omega
    have hI := l00Rises_ro ls[i] 0 (IntKind.i64.wrap ((ls.length : Int) - 1)) hm
    rw [show risB ls[i] 0 (IntKind.i64.wrap ((ls.length : Int) - 1)) = risB ls[i] 0 ((ls.length : Int) - 1) by rw [hwl]] at hI
    have hC := l00Has_ro ls[i] (ls[i].map inL) (i : Int) rfl hm
    generalize risB ls[i] 0 ((ls.length : Int) - 1) = u2 at *
    generalize (ls[i].any fun y => y == (i : Int)) = u3 at *
    ((repeat' (first
    | (show SQ _ _ _ _ _ _ _ _; first | apply sq_nil | (apply q_move; exact rfl; exact rfl) | (apply q_assign; exact rfl; exact rfl) | (apply q_pick_t; exact rfl; exact rfl; exact rfl; exact (by first | assumption | exact rfl)) | (apply q_pick_f; exact rfl; exact rfl; exact rfl; exact (by first | assumption | exact rfl)) | (apply q_not; exact rfl; exact rfl) | (apply q_add; exact rfl; exact rfl; exact rfl) | (apply q_sub; exact rfl; exact rfl; exact rfl) | (apply q_lss; exact rfl; exact rfl; exact rfl) | (apply q_ixd; exact rfl; exact rfl; exact rfl; exact (ty rfl); exact rfl; exact (by first | omega | (simp; done) | (simp; omega)); exact (by first | omega | (simp; done) | (simp; omega)); exact (by first | rfl | assumption)) | (apply q_ld1d; exact rfl; exact rfl; exact (ty rfl); exact rfl; exact rfl) | (apply q_g; exact rfl; exact rfl; exact rfl; exact (by assumption)) | (apply q_s; exact rfl; exact rfl; exact rfl; exact (by assumption); exact rfl))
    | (show SQ _ _ _ _ _ _ _ _; (first | (apply q_callU; exact rfl; exact rfl; exact rfl; exact FzL.of rfl; exact hI _) | (apply q_callU; exact rfl; exact rfl; exact rfl; exact FzL.of rfl; exact hC _)); (try simp only [put, rowsOf, plR, List.all_cons, selE, ovr, setH, del, cellsA, splice, isV, List.nil_append, List.cons_append, List.map_cons, List.map_nil, List.length_cons, List.length_nil, List.set_cons_zero, List.set_cons_succ, List.take_succ_cons, List.take_zero, List.take_nil, List.drop_succ_cons, List.drop_zero, List.drop_nil, List.append_nil, List.all_cons, List.all_nil, Bool.and_true, Bool.true_and, Bool.and_false, Bool.false_and, Nat.reduceAdd, Nat.zero_add, Nat.add_zero, Nat.reduceEqDiff, if_true, if_false, reduceIte]))
    | (show SQ _ _ _ _ _ _ _ _; apply q_gs; exact rfl; exact rfl; exact rfl; exact rfl; all_goals intro h)
    | (show AW _ _ _ _ _ _ _ _; first | refine aw_region ?_ | (refine aw_seqk ?_; intro K hK) | refine aw_block ?_ | (apply aw_cond_t; exact rfl; exact rfl) | (apply aw_cond_t; exact rfl; exact (by assumption)) | refine aw_ret ?_ | refine aw_skip ?_ | (apply aw_ite; exact rfl; all_goals intro h))
    | refine thn_n ?_
    | (refine hK _ _ _ ?_; clear hK K)
    | refine thn_r ?_
    | refine inb_n ?_
    | refine inb_r ?_)); all_goals (repeat (clear hK K)))
    all_goals first
      | (refine fin_r (fin_b rfl ?_)
         rw [nbB, allR_false c1 (by rw [hG]; simp_all), Bool.and_false]; done)
      | (refine ⟨i + 1, id, ⟨c1, fun j hj => ?_⟩, by omega, ?_⟩
         · by_cases hjq : j < i
           · exact hg j hjq
           · obtain rfl : j = i := by omega
             rw [hG]; simp_all
         · (try dsimp only); rw [← hw]; exact ⟨by (repeat (refine ⟨by first | exact lk_i rfl rfl | exact lk_d rfl rfl, ?_⟩)); exact trivial, by exact trivial, by rfl, by exact pin_0⟩)
  · have b1 : decide ((i : Int) < (ls.length : Int)) = false := by simpa using c1
    ((repeat' (first
    | (show SQ _ _ _ _ _ _ _ _; first | apply sq_nil | (apply q_move; exact rfl; exact rfl) | (apply q_assign; exact rfl; exact rfl) | (apply q_lss; exact rfl; exact rfl; exact rfl))
    | (show AW _ _ _ _ _ _ _ _; first | refine aw_region ?_ | (refine aw_seqk ?_; intro K hK) | (apply aw_cond_f; exact rfl; exact (by assumption)) | refine aw_ret ?_ | refine aw_exit ?_)
    | refine thn_n ?_
    | (refine hK _ _ _ ?_; clear hK K)
    | refine thn_e ?_
    | refine inb_same ?_
    | (clear hK K; refine hK _ _ _ ?_; clear hK K))); all_goals (repeat (clear hK K)))
    all_goals refine fin_r (fin_b rfl ?_)
    rw [nbB, hdec, allR_true fun j hj => hg j (by omega)]; rfl
end Go.Proofs.Yteknfaldpajlpaa.Nb

namespace Go.Proofs.Yteknfaldpajlpaa.Nb
open Go Go.RowKit Go.Proofs.Yteknfaldpajlpaa.Aw Go.Proofs.Yteknfaldpajlpaa.In Go.Proofs.Yteknfaldpajlpaa.Il
set_option linter.unusedSimpArgs false
set_option linter.unusedVariables false
set_option linter.unusedSectionVars false
attribute [local irreducible] AW SQ Step RO RC DE Thn InB
theorem aw_frzT2 {P : Program} {N n g : Nat} {T : Tp} {H : Hp} {Q : Exit → Tp → Hp → Nat → Prop} {c : Code} {t k0 m : Nat} {f : Nat → Nat → Bool} (H' : Hp) (ht : Aw.look T t = some (.sl k0 0 m)) (hl : Aw.look H k0 = some (tabB k0 m)) (hn : NstIn H (k0 + 1) (tabT m m f))
    (hH : ∀ i b, Aw.look H' i = some b → Aw.look H i = some b ∧ ¬ (k0 ≤ i ∧ i ≤ k0 + m)) (h : AW P N g c Q ((t, .dsl 1 (dT m f)) :: T) H' n) : AW P N g c Q T H n := by
  have e1 : ((List.range m).map fun a => tabR m (f a)).map List.length = List.replicate m m := by
    apply List.ext_getElem?
    intro x
    by_cases h : x < m <;> simp [h, tabR_len]
  refine aw_frzN (ity := 4) (ty := 106) (Ls := (List.range m).map fun a => tabR m (f a)) (rows := dT m f) (H' := H') (t := t) (k0 := k0) (len := m) ht ?_ ?_ (fun L hL => ?_) (by simp) (by rw [List.map_map]; rfl) (fun i b hb => ?_) h
  · rw [nestB, e1]; exact hl
  · rw [List.map_map]; exact hn
  · obtain ⟨a, _, rfl⟩ := List.mem_map.1 hL
    exact all_noOwn_map fun _ => rfl
  · rw [List.length_map, List.length_range]; exact hH i b hb
section
variable (ls : List (List Int)) (hS : NbS ls)
include hS
set_option maxHeartbeats 4000000 in
theorem Clashes_ok_ro (cs : List Int) (hn : cs.length ≤ 1048576) (h : nbB ls = true) (h2 : coB ls cs = true) (k : Nat) :
    RO Try.prog 12 [.dsl 1 (nbL ls), .dsl 1 (cs.map inL)] k (.tup [.sl k 0 (prOut (ccP ls cs) ls.length ls.length).length, .v (.int .i64 0)]) ((k, niB k (prL (prOut (ccP ls cs) ls.length ls.length))) :: nst (k + 1) (niT (prL (prOut (ccP ls cs) ls.length ls.length)))) (k + 1000) := by
  have hV := ValidNeighbours_ro ls hS
  have hC := codesOk_ro ls hS cs hn
  have b1 : (!nbB ls) = false := by rw [h]; rfl
  have b2 : (!coB ls cs) = false := by rw [h2]; rfl
  have hcl : cs.length = ls.length := by
    simp only [coB, Bool.and_eq_true, beq_iff_eq] at h2
    omega
  have hl := nbL_len ls
  have hP := itemPairs_ro ls.length 45 [.dptr [.dsl 1 (cs.map inL)], .dptr [.dsl 1 (nbL ls)]] (ccP ls cs) rfl rfl (fun H => FzL.of rfl) (nbB_in h) fun i j hi hj m => ccClosure_ro ls hS cs hcl i j hi hj m
  have hpl := prOut_len (ccP ls cs) ls.length (nbB_in h) ls.length
  have hn24 := nbB_in h
  have hll := prL_len (prOut (ccP ls cs) ls.length ls.length)
  generalize prOut (ccP ls cs) ls.length ls.length = ps at *
  refine RO.wide (n' := k + ((prL ps).length + 1)) (RO.ofm (.tup [.sl 0 0 ps.length, .v (.int .i64 0)]) ((0, niB 0 (prL ps)) :: nst 1 (niT (prL ps))) ((prL ps).length + 1) Try.func12 Try.ntmps12 rfl (goFn_of Try.func12 rfl (by kernel_rfl)) rfl rfl (by simp [renA, renL]) (shH_ni k _) (full_ni _) ?_) (by omega)
  rw [← hl] at hP
  ((repeat' (first
    | (show SQ _ _ _ _ _ _ _ _; apply sq_frzp (t := 2); exact rfl; exact rfl; exact (by first | rfl | exact all_noOwn_map (fun _ => rfl) | assumption | exact hclo); exact (by first | rfl | assumption); exact rfl; (try simp only [put, rowsOf, plR, List.all_cons, selE, ovr, setH, del, cellsA, splice, isV, List.nil_append, List.cons_append, List.map_cons, List.map_nil, List.length_cons, List.length_nil, List.set_cons_zero, List.set_cons_succ, List.take_succ_cons, List.take_zero, List.take_nil, List.drop_succ_cons, List.drop_zero, List.drop_nil, List.append_nil, List.all_cons, List.all_nil, Bool.and_true, Bool.true_and, Bool.and_false, Bool.false_and, Nat.reduceAdd, Nat.zero_add, Nat.add_zero, Nat.reduceEqDiff, if_true, if_false, reduceIte]))
    | (show SQ _ _ _ _ _ _ _ _; apply sq_frzp (t := 3); exact rfl; exact rfl; exact (by first | rfl | exact all_noOwn_map (fun _ => rfl) | assumption | exact hclo); exact (by first | rfl | assumption); exact rfl; (try simp only [put, rowsOf, plR, List.all_cons, selE, ovr, setH, del, cellsA, splice, isV, List.nil_append, List.cons_append, List.map_cons, List.map_nil, List.length_cons, List.length_nil, List.set_cons_zero, List.set_cons_succ, List.take_succ_cons, List.take_zero, List.take_nil, List.drop_succ_cons, List.drop_zero, List.drop_nil, List.append_nil, List.all_cons, List.all_nil, Bool.and_true, Bool.true_and, Bool.and_false, Bool.false_and, Nat.reduceAdd, Nat.zero_add, Nat.add_zero, Nat.reduceEqDiff, if_true, if_false, reduceIte]))
    | (show SQ _ _ _ _ _ _ _ _; first | apply sq_nil | (apply q_assign; exact rfl; exact rfl) | (apply q_not; exact rfl; exact rfl) | (apply q_lend; exact rfl; exact rfl; exact (ty rfl); exact rfl) | (apply q_ld1d; exact rfl; exact rfl; exact (ty rfl); exact rfl; exact rfl) | (apply q_mkf; exact rfl; exact rfl))
    | (show SQ _ _ _ _ _ _ _ _; (first | (apply q_box; exact rfl; exact rfl; exact rfl) | (apply q_callU; exact rfl; exact rfl; exact rfl; exact FzL.of rfl; exact hV _) | (apply q_callU; exact rfl; exact rfl; exact rfl; exact FzL.of rfl; exact hC _) | (apply q_callU; exact rfl; exact rfl; exact rfl; exact FzL.of rfl; exact hP _)); (try simp only [put, rowsOf, plR, List.all_cons, selE, ovr, setH, del, cellsA, splice, isV, List.nil_append, List.cons_append, List.map_cons, List.map_nil, List.length_cons, List.length_nil, List.set_cons_zero, List.set_cons_succ, List.take_succ_cons, List.take_zero, List.take_nil, List.drop_succ_cons, List.drop_zero, List.drop_nil, List.append_nil, List.all_cons, List.all_nil, Bool.and_true, Bool.true_and, Bool.and_false, Bool.false_and, Nat.reduceAdd, Nat.zero_add, Nat.add_zero, Nat.reduceEqDiff, if_true, if_false, reduceIte]))
    | (show AW _ _ _ _ _ _ _ _; first | refine aw_region ?_ | (refine aw_seqk ?_; intro K hK) | refine aw_block ?_ | (apply aw_cond_f; exact rfl; exact (by assumption)) | refine aw_ret ?_ | refine aw_skip ?_)
    | refine thn_n ?_
    | (refine hK _ _ _ ?_; clear hK K)
    | refine inb_n ?_)); all_goals (repeat (clear hK K)))
  refine fin_r (fin_ni (X := 2) (B := 3) (.r2 _ _ _ _ (.tmp _ _ rfl) (.tmp _ _ rfl)) ?_ ?_ rfl rfl ?_ (by omega))
  · simp [renA, renL, hll]
  · simp [idsOk, idsOkL, Nat.blt_eq]
  · exact .cons (by omega) .here'
set_option maxHeartbeats 4000000 in
theorem l23Codes_ro (cs : List Int) (hn : cs.length ≤ 1048576) (k : Nat) : RO Try.prog 40 [.dsl 1 (nbL ls), .dsl 1 (cs.map inL)] k (.v (.bool (coB ls cs))) [] k := by
  have hl := nbL_len ls
  have hml : (cs.map inL).length = cs.length := List.length_map _
  refine RO.ofv' Try.func40 Try.ntmps40 rfl (goFn_of Try.func40 rfl (by kernel_rfl)) rfl rfl ?_
  cases h0 : (((nbL ls).length : Int) != ((cs.map inL).length : Int)) with
  | true =>
    ((repeat' (first
    | (show SQ _ _ _ _ _ _ _ _; first | apply sq_nil | (apply q_move; exact rfl; exact rfl) | (apply q_assign; exact rfl; exact rfl) | (apply q_lend; exact rfl; exact rfl; exact (ty rfl); exact rfl) | (apply q_neq; exact rfl; exact rfl; exact rfl))
    | (show AW _ _ _ _ _ _ _ _; first | refine aw_region ?_ | (refine aw_seqk ?_; intro K hK) | (apply aw_cond_t; exact rfl; exact (by assumption)) | refine aw_ret ?_)
    | refine thn_n ?_
    | (refine hK _ _ _ ?_; clear hK K)
    | refine thn_r ?_)); all_goals (repeat (clear hK K)))
    all_goals refine fin_r (fin_b rfl ?_)
    have e : ((cs.length : Int) == (ls.length : Int)) = false := by
      rw [hl, hml] at h0
      simp at h0 ⊢; omega
    rw [coB, e]; rfl
  | false =>
    ((repeat' (first
    | (show SQ _ _ _ _ _ _ _ _; first | apply sq_nil | (apply q_move; exact rfl; exact rfl) | (apply q_assign; exact rfl; exact rfl) | (apply q_lend; exact rfl; exact rfl; exact (ty rfl); exact rfl) | (apply q_neq; exact rfl; exact rfl; exact rfl))
    | (show AW _ _ _ _ _ _ _ _; first | refine aw_region ?_ | (refine aw_seqk ?_; intro K hK) | refine aw_block ?_ | (apply aw_cond_f; exact rfl; exact (by assumption)) | refine aw_skip ?_)
    | refine thn_n ?_
    | (refine hK _ _ _ ?_; clear hK K))); all_goals (repeat (clear hK K)))
    have e : ((cs.length : Int) == (ls.length : Int)) = true := by
      rw [hl, hml] at h0
      simp at h0 ⊢; omega
    refine aw_loop (ρ := id) (ι := Nat) (fun i => ([(5, .v (.int .i64 i)), (1, .dsl 1 (cs.map inL))], [], 0))
      (fun i => i ≤ cs.length ∧ ∀ j, j < i → inB (cs.getD j 0) 0 999 = true) (fun i => cs.length - i) 0 ⟨Nat.zero_le _, fun j hj => absurd hj (Nat.not_lt_zero _)⟩ ⟨by (repeat (refine ⟨by first | exact lk_i rfl rfl | exact lk_d rfl rfl, ?_⟩)); exact trivial, by exact trivial, by rfl, by exact pin_0⟩ ?_
    rintro i ⟨hi, hg⟩
    by_cases c1 : i < cs.length
    · have b1 : decide ((i : Int) < ((cs.map inL).length : Int)) = true := by rw [hml]; simpa using c1
      have hrow : (cs.map inL)[((i : Int)).toNat]? = some (inL cs[i]) := by simp [c1]
      rw [inL_eq] at hrow
      have hD : cs.getD i 0 = cs[i] := by simp [List.getD, c1]
      have hw : IntKind.i64.wrap ((i : Int) + 1) = ((i + 1 : Nat) : Int) := by rw [IntWalk.i64_in _ (by omega)]; omega
      cases h3 : inB cs[i] 0 999 with
      | true =>
        have b3 : (!inB cs[i] 0 999) = false := by rw [h3]; rfl
        ((repeat' (first
    | (show SQ _ _ _ _ _ _ _ _; first | apply sq_nil | (apply q_move; exact rfl; exact rfl) | (apply q_assign; exact rfl; exact rfl) | (apply q_not; exact rfl; exact rfl) | (apply q_lend; exact rfl; exact rfl; exact (ty rfl); exact rfl) | (apply q_add; exact rfl; exact rfl; exact rfl) | (apply q_lss; exact rfl; exact rfl; exact rfl) | (apply q_ixd; exact rfl; exact rfl; exact rfl; exact (ty rfl); exact rfl; exact (by first | omega | (simp; done) | (simp; omega)); exact (by first | omega | (simp; done) | (simp; omega)); exact (by first | rfl | assumption)) | (apply q_ld1d; exact rfl; exact rfl; exact (ty rfl); exact rfl; exact rfl))
    | (show SQ _ _ _ _ _ _ _ _; (first | (apply q_callU; exact rfl; exact rfl; exact rfl; exact FzL.of rfl; exact l00In_ro _ _ _ _)); (try simp only [put, rowsOf, plR, List.all_cons, selE, ovr, setH, del, cellsA, splice, isV, List.nil_append, List.cons_append, List.map_cons, List.map_nil, List.length_cons, List.length_nil, List.set_cons_zero, List.set_cons_succ, List.take_succ_cons, List.take_zero, List.take_nil, List.drop_succ_cons, List.drop_zero, List.drop_nil, List.append_nil, List.all_cons, List.all_nil, Bool.and_true, Bool.true_and, Bool.and_false, Bool.false_and, Nat.reduceAdd, Nat.zero_add, Nat.add_zero, Nat.reduceEqDiff, if_true, if_false, reduceIte]))
    | (show AW _ _ _ _ _ _ _ _; first | refine aw_region ?_ | (refine aw_seqk ?_; intro K hK) | refine aw_block ?_ | (apply aw_cond_t; exact rfl; exact (by assumption)) | (apply aw_cond_f; exact rfl; exact (by assumption)) | refine aw_skip ?_)
    | refine thn_n ?_
    | (refine hK _ _ _ ?_; clear hK K)
    | refine inb_n ?_)); all_goals (repeat (clear hK K)))
        all_goals (refine ⟨i + 1, id, ⟨c1, fun j hj => ?_⟩, by omega, ?_⟩)
        · by_cases hjq : j < i
          · exact hg j hjq
          · obtain rfl : j = i := by omega
            rw [hD]; exact h3
        · (try dsimp only); rw [← hw]; exact ⟨by (repeat (refine ⟨by first | exact lk_i rfl rfl | exact lk_d rfl rfl, ?_⟩)); exact trivial, by exact trivial, by rfl, by exact pin_0⟩
      | false =>
        have b3 : (!inB cs[i] 0 999) = true := by rw [h3]; rfl
        ((repeat' (first
    | (show SQ _ _ _ _ _ _ _ _; first | apply sq_nil | (apply q_move; exact rfl; exact rfl) | (apply q_assign; exact rfl; exact rfl) | (apply q_not; exact rfl; exact rfl) | (apply q_lend; exact rfl; exact rfl; exact (ty rfl); exact rfl) | (apply q_lss; exact rfl; exact rfl; exact rfl) | (apply q_ixd; exact rfl; exact rfl; exact rfl; exact (ty rfl); exact rfl; exact (by first | omega | (simp; done) | (simp; omega)); exact (by first | omega | (simp; done) | (simp; omega)); exact (by first | rfl | assumption)) | (apply q_ld1d; exact rfl; exact rfl; exact (ty rfl); exact rfl; exact rfl))
    | (show SQ _ _ _ _ _ _ _ _; (first | (apply q_callU; exact rfl; exact rfl; exact rfl; exact FzL.of rfl; exact l00In_ro _ _ _ _)); (try simp only [put, rowsOf, plR, List.all_cons, selE, ovr, setH, del, cellsA, splice, isV, List.nil_append, List.cons_append, List.map_cons, List.map_nil, List.length_cons, List.length_nil, List.set_cons_zero, List.set_cons_succ, List.take_succ_cons, List.take_zero, List.take_nil, List.drop_succ_cons, List.drop_zero, List.drop_nil, List.append_nil, List.all_cons, List.all_nil, Bool.and_true, Bool.true_and, Bool.and_false, Bool.false_and, Nat.reduceAdd, Nat.zero_add, Nat.add_zero, Nat.reduceEqDiff, if_true, if_false, reduceIte]))
    | (show AW _ _ _ _ _ _ _ _; first | refine aw_region ?_ | (refine aw_seqk ?_; intro K hK) | refine aw_block ?_ | (apply aw_cond_t; exact rfl; exact (by assumption)) | refine aw_ret ?_ | refine aw_skip ?_)
    | refine thn_n ?_
    | (refine hK _ _ _ ?_; clear hK K)
    | refine thn_r ?_
    | refine inb_r ?_)); all_goals (repeat (clear hK K)))
        all_goals refine fin_r (fin_b rfl ?_)
        have : (cs.any fun x => !inB x 0 999) = true := List.any_eq_true.2 ⟨_, List.getElem_mem c1, b3⟩
        rw [coB, this, Bool.not_true, Bool.and_false]
    · have b1 : decide ((i : Int) < ((cs.map inL).length : Int)) = false := by rw [hml]; simpa using c1
      ((repeat' (first
    | (show SQ _ _ _ _ _ _ _ _; first | apply sq_nil | (apply q_move; exact rfl; exact rfl) | (apply q_assign; exact rfl; exact rfl) | (apply q_lend; exact rfl; exact rfl; exact (ty rfl); exact rfl) | (apply q_lss; exact rfl; exact rfl; exact rfl))
    | (show AW _ _ _ _ _ _ _ _; first | refine aw_region ?_ | (refine aw_seqk ?_; intro K hK) | (apply aw_cond_f; exact rfl; exact (by assumption)) | refine aw_ret ?_ | refine aw_exit ?_)
    | refine thn_n ?_
    | (refine hK _ _ _ ?_; clear hK K)
    | refine thn_e ?_
    | refine inb_same ?_
    | (clear hK K; refine hK _ _ _ ?_; clear hK K))); all_goals (repeat (clear hK K)))
      all_goals refine fin_r (fin_b rfl ?_)
      have : (cs.any fun x => !inB x 0 999) = false := List.any_eq_false.2 fun x hx => by
        obtain ⟨j, hj, rfl⟩ := List.getElem_of_mem hx
        have := hg j (by omega)
        simp only [List.getD, List.getElem?_eq_getElem hj, Option.getD_some] at this
        rw [this]; simp
      rw [coB, this, e]; rfl
end
def scP (ls : List (List Int)) (cs : List Int) (i j : Nat) : Bool := barB ls i j && cs.getD i 0 == cs.getD j 0
set_option maxHeartbeats 4000000 in
theorem l23Clashes_ro (ls : List (List Int)) (hS : NbS ls) (h : nbB ls = true) (cs : List Int) (hcl : cs.length = ls.length) (k : Nat) : RO Try.prog 41 [.dsl 1 (nbL ls), .dsl 1 (cs.map inL)] k (.sl k 0 (prOut (scP ls cs) ls.length ls.length).length) ((k, niB k (prL (prOut (scP ls cs) ls.length ls.length))) :: nst (k + 1) (niT (prL (prOut (scP ls cs) ls.length ls.length)))) (k + 1000) := by
  have hnl := nbL_len ls
  have hB := l23Bars_ro ls hS h
  have hn := nbB_in h
  have hml : (cs.map inL).length = cs.length := List.length_map _
  have hpl := prOut_len (scP ls cs) ls.length hn ls.length
  have hll := prL_len (prOut (scP ls cs) ls.length ls.length)
  refine RO.wide (n' := k + ((prL (prOut (scP ls cs) ls.length ls.length)).length + 1)) (RO.ofm (.sl 0 0 (prOut (scP ls cs) ls.length ls.length).length) ((0, niB 0 (prL (prOut (scP ls cs) ls.length ls.length))) :: nst 1 (niT (prL (prOut (scP ls cs) ls.length ls.length)))) ((prL (prOut (scP ls cs) ls.length ls.length)).length + 1) Try.func41 Try.ntmps41 rfl (goFn_of Try.func41 rfl (by kernel_rfl)) rfl rfl (by simp [renA]) (shH_ni k _) (full_ni _) ?_) (by omega)
  ((repeat' (first
    | (show SQ _ _ _ _ _ _ _ _; first | apply sq_nil | (apply q_move; exact rfl; exact rfl) | (apply q_assign; exact rfl; exact rfl))
    | (show SQ _ _ _ _ _ _ _ _; (first | (apply q_build0; exact rfl; exact (ty rfl); exact rfl) | (apply q_callU; exact rfl; exact rfl; exact rfl; exact FzL.of rfl; exact hB _)); (try simp only [put, rowsOf, plR, List.all_cons, selE, ovr, setH, del, cellsA, splice, isV, List.nil_append, List.cons_append, List.map_cons, List.map_nil, List.length_cons, List.length_nil, List.set_cons_zero, List.set_cons_succ, List.take_succ_cons, List.take_zero, List.take_nil, List.drop_succ_cons, List.drop_zero, List.drop_nil, List.append_nil, List.all_cons, List.all_nil, Bool.and_true, Bool.true_and, Bool.and_false, Bool.false_and, Nat.reduceAdd, Nat.zero_add, Nat.add_zero, Nat.reduceEqDiff, if_true, if_false, reduceIte]))
    | (show AW _ _ _ _ _ _ _ _; first | refine aw_region ?_ | (refine aw_seqk ?_; intro K hK) | refine aw_block ?_)
    | refine thn_n ?_
    | (refine hK _ _ _ ?_; clear hK K))); all_goals (repeat (clear hK K)))
  refine aw_frzT2 (t := 5) (m := ls.length) (f := barB ls) [(5000, ⟨23, 1, true, []⟩)] rfl rfl (fun j c hc => ?_) (fun i b hb => ?_) ?_
  · have := nlt hc
    rw [tabT_len] at this
    rw [look_cons, if_neg (by omega)]; exact tab_in j c hc
  · rw [look_cons] at hb
    split at hb
    · rename_i e
      subst e
      cases hb
      exact ⟨rfl, by omega⟩
    · simp [look_nil] at hb
  refine aw_unpl 5000 rfl ?_
  refine aw_loop (ρ := fun _ => 5000) (ι := Nat) (fun i => ([(7, .v (.int .i64 i)), (6, .sl 0 0 (prOut (scP ls cs) ls.length i).length), (5, .dsl 1 (dT ls.length (barB ls))), (1, .dsl 1 (cs.map inL))], (0, ⟨23, 1, false, outR 1 ((prL (prOut (scP ls cs) ls.length i)).map List.length)⟩) :: nst 1 (niT (prL (prOut (scP ls cs) ls.length i))), 1000))
    (fun i => i ≤ ls.length) (fun i => ls.length - i) 0 (Nat.zero_le _) (sub_nest ⟨lk_i rfl rfl, lk_s rfl rfl rfl rfl, lk_d rfl rfl, lk_d rfl rfl, trivial⟩ rfl rfl (fun j c hc => by simp [prOut, prL, niT] at hc) (by simp [prOut, prL, niT]) (fun i j hi hj _ => by simp [prOut, prL, niT] at hi hj; omega) pin_0) ?_
  intro i hi
  (try dsimp only)
  have hlen := prOut_len (scP ls cs) ls.length hn i
  have e1 : prOut (scP ls cs) ls.length (i + 1) = prIn (scP ls cs) i (prOut (scP ls cs) ls.length i) (ls.length - (i + 1)) := rfl
  have hla := prL_len (prOut (scP ls cs) ls.length i)
  by_cases c1 : i < ls.length
  · have b1 : decide ((i : Int) < ((cs.map inL).length : Int)) = true := by rw [hml, hcl]; simpa using c1
    have hw : IntKind.i64.wrap ((i : Int) + 1) = ((i + 1 : Nat) : Int) := by rw [IntWalk.i64_in _ (by omega)]; omega
    have hw0 : IntKind.i64.wrap ((i : Int) + 1) = ((i + 1 + 0 : Nat) : Int) := hw
    generalize prOut (scP ls cs) ls.length i = acc at *
    ((repeat' (first
    | (show SQ _ _ _ _ _ _ _ _; first | apply sq_nil | (apply q_move; exact rfl; exact rfl) | (apply q_assign; exact rfl; exact rfl) | (apply q_lend; exact rfl; exact rfl; exact (ty rfl); exact rfl) | (apply q_add; exact rfl; exact rfl; exact rfl) | (apply q_lss; exact rfl; exact rfl; exact rfl))
    | (show AW _ _ _ _ _ _ _ _; first | refine aw_region ?_ | (refine aw_seqk ?_; intro K hK) | refine aw_block ?_ | (apply aw_cond_t; exact rfl; exact (by assumption)) | refine aw_skip ?_)
    | refine thn_n ?_
    | (refine hK _ _ _ ?_; clear hK K))); all_goals (repeat (clear hK K)))
    refine aw_loop (ρ := id) (ι := Nat) (fun j => ([(8, .v (.int .i64 ((i + 1 + j : Nat) : Int))), (7, .v (.int .i64 i)), (6, .sl 0 0 (prIn (scP ls cs) i acc j).length), (5, .dsl 1 (dT ls.length (barB ls))), (1, .dsl 1 (cs.map inL))], (0, ⟨23, 1, false, outR 1 ((prL (prIn (scP ls cs) i acc j)).map List.length)⟩) :: nst 1 (niT (prL (prIn (scP ls cs) i acc j))), 1000))
      (fun j => j ≤ ls.length - (i + 1)) (fun j => ls.length - (i + 1) - j) 0 (Nat.zero_le _) (sub_ni ⟨lk_i rfl hw0, lk_i rfl rfl, lk_s rfl rfl rfl rfl, lk_d rfl rfl, lk_d rfl rfl, trivial⟩ rfl ni_in (by (try dsimp only); show 1 + (prL acc).length ≤ 1000; omega) pin_0) ?_
    intro j hj
    (try dsimp only)
    have hlen2 := prIn_len (scP ls cs) i acc j
    have e2 : prIn (scP ls cs) i acc (j + 1) = if scP ls cs i (i + 1 + j) then prIn (scP ls cs) i acc j ++ [((i : Int), ((i + 1 + j : Nat) : Int))] else prIn (scP ls cs) i acc j := rfl
    by_cases c2 : j < ls.length - (i + 1)
    · have b2 : decide (((i + 1 + j : Nat) : Int) < ((cs.map inL).length : Int)) = true := by rw [hml, hcl]; simp only [decide_eq_true_eq]; omega
      have hwj : IntKind.i64.wrap (((i + 1 + j : Nat) : Int) + 1) = ((i + 1 + (j + 1) : Nat) : Int) := by rw [IntWalk.i64_in _ (by omega)]; omega
      have c3 : i + 1 + j < ls.length := by omega
      have hdl := dT_len ls.length (barB ls)
      have hrow := dT_at (f := barB ls) c1
      have htl := tabR_len ls.length (barB ls i)
      have hcell := tabR_i (f := barB ls i) c3
      have hr1 : (cs.map inL)[((i : Int)).toNat]? = some (inL cs[i]) := by simp [hcl, c1]
      have hr2 : (cs.map inL)[(((i + 1 + j : Nat) : Int)).toNat]? = some (inL cs[i + 1 + j]) := by rw [Int.toNat_natCast]; simp [hcl, c3]
      rw [inL_eq] at hr1 hr2
      have hsc : scP ls cs i (i + 1 + j) = (barB ls i (i + 1 + j) && cs[i] == cs[i + 1 + j]) := by simp [scP, List.getD, hcl, c1, c3]
      have step : ∀ u : Bool, scP ls cs i (i + 1 + j) = u → (barB ls i (i + 1 + j) = false ∧ u = false) ∨ (barB ls i (i + 1 + j) = true ∧ (cs[i] == cs[i + 1 + j]) = u) := by
        intro u hu
        rw [hsc] at hu
        cases hb : barB ls i (i + 1 + j) with
        | false => rw [hb] at hu; exact .inl ⟨rfl, hu.symm⟩
        | true => rw [hb] at hu; exact .inr ⟨rfl, hu⟩
      clear hsc
      generalize barB ls i (i + 1 + j) = bb at *
      generalize prIn (scP ls cs) i acc j = cur at *
      have hlc := prL_len cur
      have hol : (outR 1 ((prL cur).map List.length)).length = cur.length := by rw [outR_len, List.length_map, hlc]
      cases hp : scP ls cs i (i + 1 + j) with
      | true =>
        rcases step _ hp with ⟨rfl, h⟩ | ⟨rfl, h⟩
        · cases h
        rw [hp] at e2
        ((repeat' (first
    | (show SQ _ _ _ _ _ _ _ _; first | apply sq_nil | (apply q_move; exact rfl; exact rfl) | (apply q_assign; exact rfl; exact rfl) | (apply q_lend; exact rfl; exact rfl; exact (ty rfl); exact rfl) | (apply q_add; exact rfl; exact rfl; exact rfl) | (apply q_lss; exact rfl; exact rfl; exact rfl))
    | (show SQ _ _ _ _ _ _ _ _; (first | (apply q_buildn; exact rfl; exact (ty rfl); exact rfl; exact rfl; exact rfl; exact rfl; exact rfl; exact rfl; exact rfl) | (apply q_apo_s; exact rfl; exact rfl; exact rfl; exact (ty rfl); exact rfl; exact rfl; exact (by first | omega | (simp; done) | (simp; omega)); exact (by first | exact List.take_of_length_le (by first | omega | (simp; done) | (simp; omega)) | rfl); exact (ty rfl); exact rfl; exact rfl; exact (by first | omega | (simp; done) | (simp; omega)); exact (by first | exact dt_full (by first | omega | (simp; done) | (simp; omega)) | assumption | rfl); exact rfl; exact (by first | omega | (simp; done) | (simp; omega)); exact (by first | omega | (simp; done) | (simp; omega)); exact (by first | assumption | exact rfl))); (try simp only [put, rowsOf, plR, List.all_cons, selE, ovr, setH, del, cellsA, splice, isV, List.nil_append, List.cons_append, List.map_cons, List.map_nil, List.length_cons, List.length_nil, List.set_cons_zero, List.set_cons_succ, List.take_succ_cons, List.take_zero, List.take_nil, List.drop_succ_cons, List.drop_zero, List.drop_nil, List.append_nil, List.all_cons, List.all_nil, Bool.and_true, Bool.true_and, Bool.and_false, Bool.false_and, Nat.reduceAdd, Nat.zero_add, Nat.add_zero, Nat.reduceEqDiff, if_true, if_false, reduceIte]))
    | (show DE _ _ _ _ _ _ _ _ _ _ _ _; first | (apply e_move; exact rfl; exact rfl; exact rfl) | (apply e_pick_t; exact rfl; exact rfl; exact rfl; exact (by first | assumption | exact rfl); exact rfl) | (apply e_eql; exact rfl; exact rfl; exact rfl; exact rfl) | (apply e_ixd; exact rfl; exact rfl; exact rfl; exact (ty rfl); exact rfl; exact (by first | omega | (simp; done) | (simp; omega)); exact (by first | omega | (simp; done) | (simp; omega)); exact (by first | rfl | assumption); exact rfl) | (apply e_ld1d; exact rfl; exact rfl; exact (ty rfl); exact rfl; exact rfl; exact rfl) | (apply e_g; exact rfl; exact rfl; exact rfl; exact rfl))
    | (show DE _ _ _ _ _ _ _ _ _ _ _ _; (first | (apply dr_nil; exact trivial)); (try simp only [put, rowsOf, plR, List.all_cons, selE, ovr, setH, del, cellsA, splice, isV, List.nil_append, List.cons_append, List.map_cons, List.map_nil, List.length_cons, List.length_nil, List.set_cons_zero, List.set_cons_succ, List.take_succ_cons, List.take_zero, List.take_nil, List.drop_succ_cons, List.drop_zero, List.drop_nil, List.append_nil, List.all_cons, List.all_nil, Bool.and_true, Bool.true_and, Bool.and_false, Bool.false_and, Nat.reduceAdd, Nat.zero_add, Nat.add_zero, Nat.reduceEqDiff, if_true, if_false, reduceIte]))
    | (show AW _ _ _ _ _ _ _ _; first | refine aw_region ?_ | (refine aw_seqk ?_; intro K hK) | refine aw_block ?_ | (apply aw_cond_t; exact rfl; exact (by assumption)) | refine aw_skip ?_ | refine aw_drawE (id := 9) [0, 0, 3, 7, 0, 31, 63, 127, 255, 255, 1023, 2047, 255, 255, 12543, 28927, 65535, 131071] [0, 0, 0, 1, 0, 0, 1, 0, 0, 0, 0, 1, 0, 0, 0, 1, 0, 0] mixed (by kernel_rfl) ?_)
    | refine thn_n ?_
    | (refine hK _ _ _ ?_; clear hK K)
    | refine inb_n ?_)); all_goals (repeat (clear hK K)))
        refine ⟨j + 1, fun z => if z = 0 then 1002 else if z = 1 + (prL cur).length then 1000 else z, c2, by omega, ?_⟩
        (try dsimp only)
        rw [e2, if_pos rfl, prL_app]
        refine sub_nig (i := 0) 1000 ?_ rfl rfl (fun j c hc => ?_) (by (try dsimp only); rw [hlc]; omega) (by omega) (by rw [hlc]; omega) (by rw [hlc]; omega) pin_0
        · exact ⟨lk_i rfl hwj, lk_i rfl rfl, lk_s rfl rfl (by rw [List.length_append]; rfl) rfl, lk_d rfl rfl, lk_d rfl rfl, trivial⟩
        · have := nlt hc
          rw [niT_len, hlc] at this
          rw [look_cons, if_neg (by omega), look_cons, if_neg (by omega), look_cons, if_neg (by omega), look_del_ne _ (by omega), look_nst_at]
          exact hc
      | false =>
        rw [hp] at e2
        rcases step _ hp with ⟨rfl, _⟩ | ⟨rfl, h⟩
        all_goals
          ((repeat' (first
    | (show SQ _ _ _ _ _ _ _ _; first | apply sq_nil | (apply q_move; exact rfl; exact rfl) | (apply q_assign; exact rfl; exact rfl) | (apply q_lend; exact rfl; exact rfl; exact (ty rfl); exact rfl) | (apply q_add; exact rfl; exact rfl; exact rfl) | (apply q_lss; exact rfl; exact rfl; exact rfl))
    | (show DE _ _ _ _ _ _ _ _ _ _ _ _; first | (apply e_move; exact rfl; exact rfl; exact rfl) | (apply e_pick_t; exact rfl; exact rfl; exact rfl; exact (by first | assumption | exact rfl); exact rfl) | (apply e_pick_f; exact rfl; exact rfl; exact rfl; exact (by first | assumption | exact rfl); exact rfl) | (apply e_eql; exact rfl; exact rfl; exact rfl; exact rfl) | (apply e_ixd; exact rfl; exact rfl; exact rfl; exact (ty rfl); exact rfl; exact (by first | omega | (simp; done) | (simp; omega)); exact (by first | omega | (simp; done) | (simp; omega)); exact (by first | rfl | assumption); exact rfl) | (apply e_ld1d; exact rfl; exact rfl; exact (ty rfl); exact rfl; exact rfl; exact rfl) | (apply e_s; exact rfl; exact rfl; exact rfl; exact (by assumption); exact rfl) | (apply e_g; exact rfl; exact rfl; exact rfl; exact rfl))
    | (show DE _ _ _ _ _ _ _ _ _ _ _ _; (first | (apply dr_nil; exact trivial)); (try simp only [put, rowsOf, plR, List.all_cons, selE, ovr, setH, del, cellsA, splice, isV, List.nil_append, List.cons_append, List.map_cons, List.map_nil, List.length_cons, List.length_nil, List.set_cons_zero, List.set_cons_succ, List.take_succ_cons, List.take_zero, List.take_nil, List.drop_succ_cons, List.drop_zero, List.drop_nil, List.append_nil, List.all_cons, List.all_nil, Bool.and_true, Bool.true_and, Bool.and_false, Bool.false_and, Nat.reduceAdd, Nat.zero_add, Nat.add_zero, Nat.reduceEqDiff, if_true, if_false, reduceIte]))
    | (show AW _ _ _ _ _ _ _ _; first | refine aw_region ?_ | (refine aw_seqk ?_; intro K hK) | refine aw_block ?_ | (apply aw_cond_f; exact rfl; exact rfl) | (apply aw_cond_t; exact rfl; exact (by assumption)) | (apply aw_cond_f; exact rfl; exact (by assumption)) | refine aw_skip ?_ | refine aw_drawE (id := 9) [0, 0, 3, 7, 0, 31, 63, 127, 255, 255, 1023, 2047, 255, 255, 12543, 28927, 65535, 131071] [0, 0, 0, 1, 0, 0, 1, 0, 0, 0, 0, 1, 0, 0, 0, 1, 0, 0] mixed (by kernel_rfl) ?_)
    | refine thn_n ?_
    | (refine hK _ _ _ ?_; clear hK K)
    | refine inb_n ?_)); all_goals (repeat (clear hK K)))
          refine ⟨j + 1, id, c2, by omega, ?_⟩
          (try dsimp only)
          rw [e2, if_neg (by simp)]
          exact sub_ni ⟨lk_i rfl hwj, lk_i rfl rfl, lk_s rfl rfl rfl rfl, lk_d rfl rfl, lk_d rfl rfl, trivial⟩ rfl ni_in (by omega) pin_0
    · have b2 : decide (((i + 1 + j : Nat) : Int) < ((cs.map inL).length : Int)) = false := by rw [hml, hcl]; simp only [decide_eq_false_iff_not]; omega
      obtain rfl : j = ls.length - (i + 1) := by omega
      have hlc := prL_len (prIn (scP ls cs) i acc (ls.length - (i + 1)))
      ((repeat' (first
    | (show SQ _ _ _ _ _ _ _ _; first | apply sq_nil | (apply q_move; exact rfl; exact rfl) | (apply q_assign; exact rfl; exact rfl) | (apply q_lend; exact rfl; exact rfl; exact (ty rfl); exact rfl) | (apply q_add; exact rfl; exact rfl; exact rfl) | (apply q_lss; exact rfl; exact rfl; exact rfl))
    | (show AW _ _ _ _ _ _ _ _; first | refine aw_region ?_ | (refine aw_seqk ?_; intro K hK) | (apply aw_cond_f; exact rfl; exact (by assumption)) | refine aw_exit ?_)
    | refine thn_n ?_
    | (refine hK _ _ _ ?_; clear hK K)
    | refine thn_e ?_
    | refine inb_same ?_
    | refine inb_n ?_
    | (clear hK K; refine hK _ _ _ ?_; clear hK K))); all_goals (repeat (clear hK K)))
      refine ⟨i + 1, id, c1, by omega, ?_⟩
      (try dsimp only)
      rw [e1]
      exact sub_ni ⟨lk_i rfl hw, lk_s rfl rfl rfl rfl, lk_d rfl rfl, lk_d rfl rfl, trivial⟩ rfl ni_in (by omega) pin_0
  · have b1 : decide ((i : Int) < ((cs.map inL).length : Int)) = false := by rw [hml, hcl]; simpa using c1
    obtain rfl : i = ls.length := by omega
    ((repeat' (first
    | (show SQ _ _ _ _ _ _ _ _; first | apply sq_nil | (apply q_move; exact rfl; exact rfl) | (apply q_assign; exact rfl; exact rfl) | (apply q_lend; exact rfl; exact rfl; exact (ty rfl); exact rfl) | (apply q_lss; exact rfl; exact rfl; exact rfl))
    | (show AW _ _ _ _ _ _ _ _; first | refine aw_region ?_ | (refine aw_seqk ?_; intro K hK) | (apply aw_cond_f; exact rfl; exact (by assumption)) | refine aw_ret ?_ | refine aw_exit ?_)
    | refine thn_n ?_
    | (refine hK _ _ _ ?_; clear hK K)
    | refine thn_e ?_
    | refine inb_same ?_
    | (clear hK K; refine hK _ _ _ ?_; clear hK K))); all_goals (repeat (clear hK K)))
    refine fin_r (fin_ni (X := 0) (B := 1) (.r1 _ _ (.tmp _ _ rfl)) ?_ ?_ rfl rfl ?_ (by omega))
    · simp [renA]
    · simp [idsOk, Nat.blt_eq]
    · exact fun j c hc => ni_in j c hc
end Go.Proofs.Yteknfaldpajlpaa.Nb

namespace Go.Proofs.Yteknfaldpajlpaa.Nb
open Go Go.RowKit Go.Proofs.Yteknfaldpajlpaa.Aw Go.Proofs.Yteknfaldpajlpaa.In Go.Proofs.Yteknfaldpajlpaa.Il
set_option linter.unusedSimpArgs false
set_option linter.unusedVariables false
set_option linter.unusedSectionVars false
theorem RO.nilT {P : Program} {f : FuncId} {args : List AV} {k : Nat} {e : Value} (ty : TypeId) (h : RO P f args k (.tup [.v (.slice none 0 0), .v e]) [] k) : RO P f args k (.tup [.sl k 0 0, .v e]) [(k, ⟨ty, 1, false, []⟩)] (k + 1) := by
  obtain ⟨h1, h2, h3, h4⟩ := h
  have hU : ∀ (i : Nat) (b : Blk), Aw.look [(k, (⟨ty, 1, false, []⟩ : Blk))] i = some b → i = k ∧ b = ⟨ty, 1, false, []⟩ := fun i b hb => by
    rw [look_cons] at hb
    split at hb
    · rename_i he; subst he; cases hb; exact ⟨rfl, rfl⟩
    · simp [look_nil] at hb
  refine ⟨h1, Nat.le_succ _, fun i b hb => by obtain ⟨rfl, _⟩ := hU i b hb; exact ⟨Nat.le_refl _, Nat.lt_succ_self _⟩, fun K w xs hk hv => (h4 K w xs hk hv).mono ?_⟩
  rintro e' w' ⟨r, m', he, hr⟩
  refine ⟨r, fun _ => ⟨0, 0, 0, true⟩, he, hr.below, ?_, (fun i _ _ hp => by cases hp), (fun i b hb => by obtain ⟨rfl, _⟩ := hU i b hb; exact ⟨Nat.le_refl _, Nat.lt_succ_self _⟩), (fun i b hb => ?_), (fun i j bi bj _ _ _ hp => by cases hp), (fun i b _ _ => by show (0 : Nat) ≠ 1; omega)⟩
  · have hv := hr.vr
    cases hv with
    | tup _ _ xs hl hv =>
      refine .tup _ _ xs hl fun j cv x hj hx => ?_
      match j, hj with
      | 0, hj =>
        cases hj
        have := hv 0 _ x rfl hx
        cases this
        exact .sl0 _ _ _ _ ⟨Nat.le_refl _, Nat.lt_succ_self _⟩
      | 1, hj =>
        cases hj
        have := hv 1 _ x rfl hx
        cases this
        exact .v _ _
  · obtain ⟨rfl, rfl⟩ := hU i b hb; exact .inl ⟨rfl, rfl⟩
theorem fz_ni {H : Hp} {k m : Nat} {ls : List (List Int)} (hl : Aw.look H k = some (niB k ls)) (hn : NstIn H (k + 1) (niT ls)) (hm : m = ls.length) : Fz H (.sl k 0 m) (.dsl 1 (nbL ls)) := by
  refine Fz.nst (ity := 2) (ty := 23) (Ls := ls.map fun l => l.map inL) ?_ ?_ (by rw [List.length_map]; exact hm) ?_
  · rw [hl]
    unfold niB nestB
    rw [List.map_map]
    have : (List.length ∘ fun l => List.map inL l) = List.length := by funext l; simp
    rw [this]
  · rw [List.map_map]; exact hn
  · rw [List.map_map]; rfl
theorem lkE_someE : ∀ (U : Hp) (i : Nat), lkE (someE U) i = (Aw.look U i).map some
  | [], i => rfl
  | (k, b) :: U, i => by
    show lkE ((k, some b) :: someE U) i = _
    rw [lkE_cons, look_cons]
    split
    · rfl
    · exact lkE_someE U i
theorem niB_mk (k : Nat) (z : Int) (ls : List (List Int)) : niB k (mkS z ls) = niB k ls := by
  have : (mkS z ls).map List.length = ls.map List.length := by
    apply List.ext_getElem?
    intro j
    by_cases hj : j < ls.length
    · rw [List.getElem?_map, List.getElem?_map, mkS_get ls z j hj, List.getElem?_eq_getElem hj]; simp
    · rw [List.getElem?_eq_none (by rw [List.length_map, mkS_len]; omega), List.getElem?_eq_none (by rw [List.length_map]; omega)]
  rw [niB, this, niB]
theorem subE_of {H : Hp} : ∀ {Hi : Hp}, (∀ p ∈ Hi, Aw.look H p.1 = some p.2) → subE H Hi
  | [], _ => trivial
  | p :: Hi, h => ⟨h p List.mem_cons_self, subE_of fun q hq => h q (List.mem_cons_of_mem _ hq)⟩
theorem q_markN {P : Program} {N n d : Nat} {all : Array Oper} {l : List Oper} {G : Tp → Hp → Nat → Prop} {T : Tp} {H : Hp} {f : Operand} {xs : Array Operand} {ts : Array TypeId} {args : List AV} {v : AV} {g : FuncId} {ty : TypeId} {pos : String} {after : Array Edge} (b : Nat) (ls ms : List (List Int)) (H' : Hp)
    (hd : Nat.blt d N = true) (hf : evalA T f = some (.fn g [])) (ha : evalL T xs.toList = some args)
    (hrc : RC P g args ((b, niB b ls) :: nst (b + 1) (niT ls)) n v (someE ((b, niB b ls) :: nst (b + 1) (niT ms))) n)
    (hl : Aw.look H b = some (niB b ls)) (hn : NstIn H (b + 1) (niT ls))
    (hH : ∀ i c, Aw.look H' i = some c → Aw.look ((b, niB b ls) :: nst (b + 1) (niT ms)) i = some c ∨ (Aw.look ((b, niB b ls) :: nst (b + 1) (niT ms)) i = none ∧ Aw.look H i = some c))
    (h : SQ P N all l G ((d, v) :: T) H' n) : SQ P N all (⟨some d, .call { callee := .value f, args := xs, argTypes := ts }, ty, pos, after, none⟩ :: l) G T H n := by
  refine q_callC (n' := n) (dst := some d) hd hf ha (by rw [List.append_nil]; exact hrc) (subE_of fun p hp => ?_) (sq_sub (fun i c hc => ?_) h)
  · rcases List.mem_cons.1 hp with rfl | hp
    · exact hl
    · obtain ⟨j, h1, h2⟩ := nst_mem _ _ _ hp
      rw [h2]; exact hn j _ h1
  · rw [look_ovr, lkE_someE]
    rcases hH i c hc with h | ⟨h1, h2⟩
    · rw [h]; rfl
    · rw [h1]; exact h2
attribute [local irreducible] AW SQ Step RO RC DE
section
variable (ls : List (List Int)) (hS : NbS ls)
include hS
set_option maxHeartbeats 4000000 in
theorem SClashes_bad_ro (cs : List Int) (h : nbB ls = false) (k : Nat) : RO Try.prog 9 [.dsl 1 (nbL ls), .dsl 1 (cs.map inL)] k (.tup [.v (.slice none 0 0), .v (.int .i64 1)]) [] k := by
  have hV := l23Ok_ro ls hS
  have b1 : (!nbB ls) = true := by rw [h]; rfl
  refine RO.ofp Try.func9 Try.ntmps9 rfl (goFn_of Try.func9 rfl (by kernel_rfl)) rfl rfl rfl ?_
  ((repeat' (first
    | (show SQ _ _ _ _ _ _ _ _; first | apply sq_nil | (apply q_move; exact rfl; exact rfl) | (apply q_assign; exact rfl; exact rfl) | (apply q_not; exact rfl; exact rfl))
    | (show SQ _ _ _ _ _ _ _ _; (first | (apply q_callU; exact rfl; exact rfl; exact rfl; exact FzL.of rfl; exact hV _)); (try simp only [put, rowsOf, plR, List.all_cons, selE, ovr, setH, del, cellsA, splice, isV, List.nil_append, List.cons_append, List.map_cons, List.map_nil, List.length_cons, List.length_nil, List.set_cons_zero, List.set_cons_succ, List.take_succ_cons, List.take_zero, List.take_nil, List.drop_succ_cons, List.drop_zero, List.drop_nil, List.append_nil, List.all_cons, List.all_nil, Bool.and_true, Bool.true_and, Bool.and_false, Bool.false_and, Nat.reduceAdd, Nat.zero_add, Nat.add_zero, Nat.reduceEqDiff, if_true, if_false, reduceIte]))
    | (show AW _ _ _ _ _ _ _ _; first | refine aw_region ?_ | (refine aw_seqk ?_; intro K hK) | (apply aw_cond_t; exact rfl; exact (by assumption)) | refine aw_ret ?_)
    | refine thn_n ?_
    | (refine hK _ _ _ ?_; clear hK K)
    | refine thn_r ?_)); all_goals (repeat (clear hK K)))
  all_goals refine fin_r (fin_p (.r2 _ _ _ _ (.tmp _ _ rfl) (.tmp _ _ rfl)) ?_ rfl rfl rfl)
  all_goals rfl
set_option maxHeartbeats 4000000 in
theorem SClashes_st_ro (cs : List Int) (hn : cs.length ≤ 1048576) (h : nbB ls = true) (h2 : coB ls cs = false) (k : Nat) : RO Try.prog 9 [.dsl 1 (nbL ls), .dsl 1 (cs.map inL)] k (.tup [.v (.slice none 0 0), .v (.int .i64 6)]) [] k := by
  have hV := l23Ok_ro ls hS
  have hC := l23Codes_ro ls hS cs hn
  have b1 : (!nbB ls) = false := by rw [h]; rfl
  have b2 : (!coB ls cs) = true := by rw [h2]; rfl
  refine RO.ofp Try.func9 Try.ntmps9 rfl (goFn_of Try.func9 rfl (by kernel_rfl)) rfl rfl rfl ?_
  ((repeat' (first
    | (show SQ _ _ _ _ _ _ _ _; first | apply sq_nil | (apply q_move; exact rfl; exact rfl) | (apply q_assign; exact rfl; exact rfl) | (apply q_not; exact rfl; exact rfl))
    | (show SQ _ _ _ _ _ _ _ _; (first | (apply q_callU; exact rfl; exact rfl; exact rfl; exact FzL.of rfl; exact hV _) | (apply q_callU; exact rfl; exact rfl; exact rfl; exact FzL.of rfl; exact hC _)); (try simp only [put, rowsOf, plR, List.all_cons, selE, ovr, setH, del, cellsA, splice, isV, List.nil_append, List.cons_append, List.map_cons, List.map_nil, List.length_cons, List.length_nil, List.set_cons_zero, List.set_cons_succ, List.take_succ_cons, List.take_zero, List.take_nil, List.drop_succ_cons, List.drop_zero, List.drop_nil, List.append_nil, List.all_cons, List.all_nil, Bool.and_true, Bool.true_and, Bool.and_false, Bool.false_and, Nat.reduceAdd, Nat.zero_add, Nat.add_zero, Nat.reduceEqDiff, if_true, if_false, reduceIte]))
    | (show AW _ _ _ _ _ _ _ _; first | refine aw_region ?_ | (refine aw_seqk ?_; intro K hK) | (apply aw_cond_t; exact rfl; exact (by assumption)) | (apply aw_cond_f; exact rfl; exact (by assumption)) | refine aw_ret ?_ | refine aw_skip ?_)
    | refine thn_n ?_
    | (refine hK _ _ _ ?_; clear hK K)
    | refine thn_r ?_)); all_goals (repeat (clear hK K)))
  all_goals refine fin_r (fin_p (.r2 _ _ _ _ (.tmp _ _ rfl) (.tmp _ _ rfl)) ?_ rfl rfl rfl)
  all_goals rfl
set_option maxHeartbeats 4000000 in
theorem SClashes_ok_ro (cs : List Int) (hn : cs.length ≤ 1048576) (h : nbB ls = true) (h2 : coB ls cs = true) (k : Nat) :
    RO Try.prog 9 [.dsl 1 (nbL ls), .dsl 1 (cs.map inL)] k (.tup [.sl k 0 (prOut (scP ls cs) ls.length ls.length).length, .v (.int .i64 0)]) ((k, niB k (prL (prOut (scP ls cs) ls.length ls.length))) :: nst (k + 1) (niT (prL (prOut (scP ls cs) ls.length ls.length)))) (k + 1000) := by
  have hV := l23Ok_ro ls hS
  have hC := l23Codes_ro ls hS cs hn
  have b1 : (!nbB ls) = false := by rw [h]; rfl
  have b2 : (!coB ls cs) = false := by rw [h2]; rfl
  have hcl : cs.length = ls.length := by
    simp only [coB, Bool.and_eq_true, beq_iff_eq] at h2
    omega
  have hP := l23Clashes_ro ls hS h cs hcl
  have hpl := prOut_len (scP ls cs) ls.length (nbB_in h) ls.length
  have hn24 := nbB_in h
  have hll := prL_len (prOut (scP ls cs) ls.length ls.length)
  generalize prOut (scP ls cs) ls.length ls.length = ps at *
  refine RO.wide (n' := k + ((prL ps).length + 1)) (RO.ofm (.tup [.sl 0 0 ps.length, .v (.int .i64 0)]) ((0, niB 0 (prL ps)) :: nst 1 (niT (prL ps))) ((prL ps).length + 1) Try.func9 Try.ntmps9 rfl (goFn_of Try.func9 rfl (by kernel_rfl)) rfl rfl (by simp [renA, renL]) (shH_ni k _) (full_ni _) ?_) (by omega)
  ((repeat' (first
    | (show SQ _ _ _ _ _ _ _ _; first | apply sq_nil | (apply q_move; exact rfl; exact rfl) | (apply q_assign; exact rfl; exact rfl) | (apply q_not; exact rfl; exact rfl))
    | (show SQ _ _ _ _ _ _ _ _; (first | (apply q_callU; exact rfl; exact rfl; exact rfl; exact FzL.of rfl; exact hV _) | (apply q_callU; exact rfl; exact rfl; exact rfl; exact FzL.of rfl; exact hC _) | (apply q_callU; exact rfl; exact rfl; exact rfl; exact FzL.of rfl; exact hP _)); (try simp only [put, rowsOf, plR, List.all_cons, selE, ovr, setH, del, cellsA, splice, isV, List.nil_append, List.cons_append, List.map_cons, List.map_nil, List.length_cons, List.length_nil, List.set_cons_zero, List.set_cons_succ, List.take_succ_cons, List.take_zero, List.take_nil, List.drop_succ_cons, List.drop_zero, List.drop_nil, List.append_nil, List.all_cons, List.all_nil, Bool.and_true, Bool.true_and, Bool.and_false, Bool.false_and, Nat.reduceAdd, Nat.zero_add, Nat.add_zero, Nat.reduceEqDiff, if_true, if_false, reduceIte]))
    | (show AW _ _ _ _ _ _ _ _; first | refine aw_region ?_ | (refine aw_seqk ?_; intro K hK) | (apply aw_cond_f; exact rfl; exact (by assumption)) | refine aw_ret ?_ | refine aw_skip ?_)
    | refine thn_n ?_
    | (refine hK _ _ _ ?_; clear hK K))); all_goals (repeat (clear hK K)))
  refine fin_r (fin_ni (X := 0) (B := 1) (.r2 _ _ _ _ (.tmp _ _ rfl) (.tmp _ _ rfl)) ?_ ?_ rfl rfl ?_ (by omega))
  · simp [renA, renL, hll]
  · simp [idsOk, idsOkL, Nat.blt_eq]
  · exact .cons (by omega) .here'
theorem Clashes_both (cs : List Int) (hn : cs.length ≤ 1048576) : ∃ (ps : List (Int × Int)) (e : Int), ps.length ≤ 576 ∧
    (∀ k, RO Try.prog 12 [.dsl 1 (nbL ls), .dsl 1 (cs.map inL)] k (.tup [.sl k 0 ps.length, .v (.int .i64 e)]) ((k, niB k (prL ps)) :: nst (k + 1) (niT (prL ps))) (k + 1000)) ∧
    ∀ k, RO Try.prog 9 [.dsl 1 (nbL ls), .dsl 1 (cs.map inL)] k (.tup [.sl k 0 ps.length, .v (.int .i64 e)]) ((k, niB k (prL ps)) :: nst (k + 1) (niT (prL ps))) (k + 1000) := by
  cases h : nbB ls with
  | false => exact ⟨[], 1, Nat.zero_le _, fun k => (RO.nilT _ (Clashes_bad_ro ls hS cs h k)).wide (by omega), fun k => (RO.nilT _ (SClashes_bad_ro ls hS cs h k)).wide (by omega)⟩
  | true =>
    cases h2 : coB ls cs with
    | false => exact ⟨[], 6, Nat.zero_le _, fun k => (RO.nilT _ (Clashes_st_ro ls hS cs hn h h2 k)).wide (by omega), fun k => (RO.nilT _ (SClashes_st_ro ls hS cs hn h h2 k)).wide (by omega)⟩
    | true =>
      have hn24 := nbB_in h
      have hpl := prOut_len (ccP ls cs) ls.length hn24 ls.length
      have e : prOut (scP ls cs) ls.length ls.length = prOut (ccP ls cs) ls.length ls.length := prOut_congr (fun a b hab hb => ?_) _
      · refine ⟨_, 0, by omega, Clashes_ok_ro ls hS cs hn h h2, fun k => ?_⟩
        have := SClashes_ok_ro ls hS cs hn h h2 k
        rwa [e] at this
      · have : (b != a) = true := by simp; omega
        unfold scP ccP barB clB secB shareB
        rw [this, Bool.true_and, Bool.and_comm]
end
end Go.Proofs.Yteknfaldpajlpaa.Nb

namespace Go.Proofs.Yteknfaldpajlpaa.Nb
open Go Go.RowKit Go.Proofs.Yteknfaldpajlpaa.Aw Go.Proofs.Yteknfaldpajlpaa.In Go.Proofs.Yteknfaldpajlpaa.Il
set_option linter.unusedSimpArgs false
set_option linter.unusedVariables false
set_option linter.unusedSectionVars false
attribute [local irreducible] AW SQ Step RO RC DE Thn InB
theorem canon {H : Hp} {O : Hp} {b1 b2 : Nat} {L1 L2 : List Blk} (ho : subE H O) (h1 : NstIn H b1 L1) (h2 : NstIn H b2 L2) : ∀ i c, Aw.look (O ++ (nst b1 L1 ++ nst b2 L2)) i = some c → Aw.look H i = some c := by
  intro i c h
  have hm := look_mem h
  rcases List.mem_append.1 hm with hm | hm
  · clear h
    induction O with
    | nil => cases hm
    | cons p O ih =>
      obtain ⟨ha, hb⟩ := ho
      rcases List.mem_cons.1 hm with rfl | hm
      · exact ha
      · exact ih hb (List.mem_append_left _ hm) hm
  · rcases List.mem_append.1 hm with hm | hm
    · obtain ⟨j, g1, g2⟩ := nst_mem _ _ _ hm
      dsimp only at g1 g2
      rw [g2]; exact h1 j c g1
    · obtain ⟨j, g1, g2⟩ := nst_mem _ _ _ hm
      dsimp only at g1 g2
      rw [g2]; exact h2 j c g1
theorem canon1 {H : Hp} {O : Hp} {b1 : Nat} {L1 : List Blk} (ho : subE H O) (h1 : NstIn H b1 L1) : ∀ i c, Aw.look (O ++ nst b1 L1) i = some c → Aw.look H i = some c := by
  have := canon (b2 := 0) (L2 := []) ho h1 (fun j b h => by simp at h)
  rwa [nst, List.append_nil] at this
theorem NstIn.del {base i : Nat} {bs : List Blk} {H : Hp} (h : i < base ∨ base + bs.length ≤ i) (hn : NstIn H base bs) : NstIn (Aw.del H i) base bs := fun j c hc => by
  have := nlt hc
  rw [look_del_ne _ (by omega)]; exact hn j c hc
theorem look_skip {base i : Nat} {bs : List Blk} {H : Hp} (h : i < base ∨ base + bs.length ≤ i) : Aw.look (nst base bs ++ H) i = Aw.look H i := by
  rw [look_append, look_nst]
  split
  · rw [List.getElem?_eq_none (by omega)]; rfl
  · rfl
theorem fz_in {H : Hp} {b m : Nat} {cs : List Int} (hl : Aw.look H b = some ⟨2, 1, true, cs.map inL⟩) (hm : m = cs.length) : Fz H (.sl b 0 m) (.dsl 1 (cs.map inL)) := by
  subst hm
  refine fun _ _ _ _ _ _ _ hr hv => fz_vr hr 1 _ _ _ ?_ hv
  have : (cs.map inL).length = cs.length := List.length_map _
  simp only [fz, hl, Nat.zero_add, List.drop_zero]
  rw [if_pos (by omega), List.take_of_length_le (by omega)]; rfl
theorem nest_none {b i : Nat} {B : Blk} {bs : List Blk} (h : i < b ∨ b + bs.length < i) : Aw.look ((b, B) :: nst (b + 1) bs) i = none := by
  rw [look_cons, if_neg (by omega), look_nst]
  split
  · rw [List.getElem?_eq_none (by omega)]
  · rfl
theorem sq_frzNi {P : Program} {N n : Nat} {T : Tp} {H : Hp} {all : Array Oper} {l : List Oper} {G : Tp → Hp → Nat → Prop} {k0 m : Nat} {ls : List (List Int)} (t : Nat) (H' : Hp) (ht : Aw.look T t = some (.sl k0 0 m)) (hl : Aw.look H k0 = some (niB k0 ls)) (hn : NstIn H (k0 + 1) (niT ls)) (hm : m = ls.length)
    (hH : ∀ i b, Aw.look H' i = some b → Aw.look H i = some b ∧ ¬ (k0 ≤ i ∧ i ≤ k0 + ls.length)) (h : SQ P N all l G ((t, .dsl 1 (nbL ls)) :: T) H' n) : SQ P N all l G T H n := by
  refine sq_frzN (ity := 2) (ty := 23) (Ls := ls.map fun l => l.map inL) (rows := nbL ls) (H' := H') (t := t) (k0 := k0) (len := m) ht ?_ ?_ (fun L hL => ?_) (by rw [List.length_map]; exact hm) (by rw [List.map_map]; rfl) (fun i b hb => ?_) h
  · rw [hl]
    unfold niB nestB
    rw [List.map_map]
    have : (List.length ∘ fun l => List.map inL l) = List.length := by funext l; simp
    rw [this]
  · rw [List.map_map]; exact hn
  · obtain ⟨a, _, rfl⟩ := List.mem_map.1 hL
    exact all_noOwn_map fun _ => rfl
  · rw [List.length_map]; exact hH i b hb
set_option maxHeartbeats 4000000 in
theorem lawClashes_ro (ls : List (List Int)) (cs : List Int) (hn : ls.length ≤ 9223372036854775807) (hl : ∀ l ∈ ls, l.length ≤ 9223372036854775807) (hc : cs.length ≤ 9223372036854775807) (k : Nat) :
    RO Try.prog 3 [.dsl 1 (nbL ls), .dsl 1 (cs.map inL)] k (.v (.bool true)) [] k := by
  have hml : (cs.map inL).length = cs.length := List.length_map _
  have hsz := szInt64SS_ro ls hn hl
  refine RO.ofv' Try.func3 Try.ntmps3 rfl (goFn_of Try.func3 rfl (by kernel_rfl)) rfl rfl ?_
  by_cases c1 : (1048576 : Int) < (cs.length : Int)
  · have b1 : decide ((1048576 : Int) < ((cs.map inL).length : Int)) = true := by rw [hml]; simpa using c1
    ((repeat' (first
    | (show SQ _ _ _ _ _ _ _ _; first | apply sq_nil | (apply q_move; exact rfl; exact rfl) | (apply q_assign; exact rfl; exact rfl) | (apply q_lend; exact rfl; exact rfl; exact (ty rfl); exact rfl) | (apply q_gtr; exact rfl; exact rfl; exact rfl))
    | (show AW _ _ _ _ _ _ _ _; first | refine aw_region ?_ | (refine aw_seqk ?_; intro K hK) | (apply aw_cond_t; exact rfl; exact (by assumption)) | refine aw_ret ?_)
    | refine thn_n ?_
    | (refine hK _ _ _ ?_; clear hK K)
    | refine thn_r ?_)); all_goals (repeat (clear hK K)))
    all_goals exact fin_r (fin_b rfl rfl)
  have b1 : decide ((1048576 : Int) < ((cs.map inL).length : Int)) = false := by rw [hml]; simpa using c1
  by_cases c2 : szSS ls 1048576 < 0
  · have b2 : decide (szSS ls 1048576 < 0) = true := by simpa using c2
    ((repeat' (first
    | (show SQ _ _ _ _ _ _ _ _; first | apply sq_nil | (apply q_move; exact rfl; exact rfl) | (apply q_assign; exact rfl; exact rfl) | (apply q_lend; exact rfl; exact rfl; exact (ty rfl); exact rfl) | (apply q_lss; exact rfl; exact rfl; exact rfl) | (apply q_gtr; exact rfl; exact rfl; exact rfl))
    | (show SQ _ _ _ _ _ _ _ _; (first | (apply q_callU; exact rfl; exact rfl; exact rfl; exact FzL.of rfl; exact hsz _)); (try simp only [put, rowsOf, plR, List.all_cons, selE, ovr, setH, del, cellsA, splice, isV, List.nil_append, List.cons_append, List.map_cons, List.map_nil, List.length_cons, List.length_nil, List.set_cons_zero, List.set_cons_succ, List.take_succ_cons, List.take_zero, List.take_nil, List.drop_succ_cons, List.drop_zero, List.drop_nil, List.append_nil, List.all_cons, List.all_nil, Bool.and_true, Bool.true_and, Bool.and_false, Bool.false_and, Nat.reduceAdd, Nat.zero_add, Nat.add_zero, Nat.reduceEqDiff, if_true, if_false, reduceIte]))
    | (show AW _ _ _ _ _ _ _ _; first | refine aw_region ?_ | (refine aw_seqk ?_; intro K hK) | (apply aw_cond_t; exact rfl; exact (by assumption)) | (apply aw_cond_f; exact rfl; exact (by assumption)) | refine aw_ret ?_ | refine aw_skip ?_)
    | refine thn_n ?_
    | (refine hK _ _ _ ?_; clear hK K)
    | refine thn_r ?_)); all_goals (repeat (clear hK K)))
    all_goals exact fin_r (fin_b rfl rfl)
  have b2 : decide (szSS ls 1048576 < 0) = false := by simpa using c2
  obtain ⟨hS, htot⟩ := szSS_in c2
  obtain ⟨ps, e, hpn, hI, hSp⟩ := Clashes_both ls hS cs (by omega)
  have hT := toInt64SS_ro ls hS
  have hT1 := toInt64S_ro cs (by omega)
  have hnl := hS.n
  have hNl := niT_len ls
  have hPl := prL_len ps
  have hNp := niT_len (prL ps)
  have hNm := niT_len (mkS 1 (prL ps))
  have hMl := mkS_len (prL ps) 1
  have hPS : NbS (prL ps) := ⟨by omega, fun l h => by obtain ⟨p, _, rfl⟩ := List.mem_map.1 h; show 2 ≤ _; omega⟩
  have hpt : totN (prL ps) = 2 * ps.length := by
    clear hNm hMl hPS hNp hPl hpn hI hSp
    induction ps with
    | nil => rfl
    | cons p ps ih => simp only [totN, prL, List.map_cons, List.sum_cons, List.length_cons] at ih ⊢; rw [ih]; show 2 + _ = _; omega
  have hE := eqInt64SS_ro (prL ps) hPS
  have hE0 := eqInt64SS_ro ls hS
  have hE1 := eqInt64S_ro cs (by omega)
  have hM0 := markInt64SS_rc 1049579 ls hS (by omega) 1 (by omega) (by omega)
  have hM1 := markInt64SS_rc 2098158 (prL ps) hPS (by omega) 1 (by omega) (by omega)
  have hM2 := markInt64S_rc 2098157 cs (1 + (totN ls : Int)) (by omega) (by omega) (by omega)
  have hH := heldInt64SS_ro (prL ps) hPS (by omega) 1 (by omega) (by omega)
  have z0 : (e != e) = false := by simp
  have z1 : decide (1 + (totN ls : Int) + (cs.length : Int) < 0) = false := by simp; omega
  have z2 : decide (1 + (totN (prL ps) : Int) < 0) = false := by simp; omega
  have z3 : (1 + (totN (prL ps) : Int) != 1 + (totN (prL ps) : Int)) = false := by simp
  ((repeat' (first
    | (show SQ _ _ _ _ _ _ _ _; first | apply sq_nil | (apply q_move; exact rfl; exact rfl) | (apply q_assign; exact rfl; exact rfl) | (apply q_lend; exact rfl; exact rfl; exact (ty rfl); exact rfl) | (apply q_lss; exact rfl; exact rfl; exact rfl) | (apply q_gtr; exact rfl; exact rfl; exact rfl))
    | (show SQ _ _ _ _ _ _ _ _; (first | (apply q_callU; exact rfl; exact rfl; exact rfl; exact FzL.of rfl; exact hsz _) | (apply q_callU; exact rfl; exact rfl; exact rfl; exact FzL.of rfl; exact hT _) | (apply q_callU; exact rfl; exact rfl; exact rfl; exact FzL.of rfl; exact hT1 _)); (try simp only [put, rowsOf, plR, List.all_cons, selE, ovr, setH, del, cellsA, splice, isV, List.nil_append, List.cons_append, List.map_cons, List.map_nil, List.length_cons, List.length_nil, List.set_cons_zero, List.set_cons_succ, List.take_succ_cons, List.take_zero, List.take_nil, List.drop_succ_cons, List.drop_zero, List.drop_nil, List.append_nil, List.all_cons, List.all_nil, Bool.and_true, Bool.true_and, Bool.and_false, Bool.false_and, Nat.reduceAdd, Nat.zero_add, Nat.add_zero, Nat.reduceEqDiff, if_true, if_false, reduceIte]))
    | (show AW _ _ _ _ _ _ _ _; first | refine aw_region ?_ | (refine aw_seqk ?_; intro K hK) | (apply aw_cond_f; exact rfl; exact (by assumption)) | refine aw_skip ?_)
    | refine thn_n ?_
    | (refine hK _ _ _ ?_; clear hK K))); all_goals (repeat (clear hK K)))
  refine q_callU rfl rfl rfl (FzL.cons (fz_ni rfl (.cons (by omega) (.cons (by omega) .here')) rfl) (FzL.cons (fz_in rfl rfl) FzL.nil)) (hSp _) ?_
  ((repeat' (first
    | (show SQ _ _ _ _ _ _ _ _; first | apply sq_nil | (apply q_move; exact rfl; exact rfl) | (apply q_assign; exact rfl; exact rfl) | (apply q_ext; exact rfl; exact rfl; exact rfl))
    | (show AW _ _ _ _ _ _ _ _; first | refine aw_region ?_ | (refine aw_seqk ?_; intro K hK))
    | refine thn_n ?_
    | (refine hK _ _ _ ?_; clear hK K))); all_goals (repeat (clear hK K)))
  refine sq_frzNi 6 [] rfl rfl (.cons (by omega) .here) hPl.symm (fun i b hb => by simp [look_nil] at hb) ?_
  ((repeat' (first
    | (show SQ _ _ _ _ _ _ _ _; first | apply sq_nil | (apply q_move; exact rfl; exact rfl) | (apply q_assign; exact rfl; exact rfl))
    | (show SQ _ _ _ _ _ _ _ _; (first | (apply q_callU; exact rfl; exact rfl; exact rfl; exact FzL.of rfl; exact hT _) | (apply q_callU; exact rfl; exact rfl; exact rfl; exact FzL.of rfl; exact hT1 _)); (try simp only [put, rowsOf, plR, List.all_cons, selE, ovr, setH, del, cellsA, splice, isV, List.nil_append, List.cons_append, List.map_cons, List.map_nil, List.length_cons, List.length_nil, List.set_cons_zero, List.set_cons_succ, List.take_succ_cons, List.take_zero, List.take_nil, List.drop_succ_cons, List.drop_zero, List.drop_nil, List.append_nil, List.all_cons, List.all_nil, Bool.and_true, Bool.true_and, Bool.and_false, Bool.false_and, Nat.reduceAdd, Nat.zero_add, Nat.add_zero, Nat.reduceEqDiff, if_true, if_false, reduceIte]))
    | (show AW _ _ _ _ _ _ _ _; first | refine aw_region ?_ | (refine aw_seqk ?_; intro K hK))
    | refine thn_n ?_
    | (refine hK _ _ _ ?_; clear hK K))); all_goals (repeat (clear hK K)))
  refine q_callU rfl rfl rfl (FzL.cons (fz_ni rfl (.cons (by omega) (.cons (by omega) .here')) rfl) (FzL.cons (fz_in rfl rfl) FzL.nil)) (hI _) ?_
  refine sq_sub (canon (O := [(2098158, niB 2098158 (prL ps)), (2098157, ⟨2, 1, true, cs.map inL⟩), (1049579, niB 1049579 ls)]) (b1 := 2098159) (b2 := 1049580) (L1 := niT (prL ps)) (L2 := niT ls) ⟨rfl, look_skip (by omega), look_skip (by omega), trivial⟩ (.cons (by omega) .here) (.cons (by omega) (.skip (by omega) (.cons (by omega) (.cons (by omega) .here'))))) ?_
  ((repeat' (first
    | (show SQ _ _ _ _ _ _ _ _; first | apply sq_nil | (apply q_move; exact rfl; exact rfl) | (apply q_assign; exact rfl; exact rfl) | (apply q_ext; exact rfl; exact rfl; exact rfl))
    | (show AW _ _ _ _ _ _ _ _; first | refine aw_region ?_ | (refine aw_seqk ?_; intro K hK))
    | refine thn_n ?_
    | (refine hK _ _ _ ?_; clear hK K))); all_goals (repeat (clear hK K)))
  refine q_callU rfl rfl rfl (FzL.cons (fz_ni rfl (.cons (by omega) (.cons (by omega) (.cons (by omega) .here))) hPl.symm) (FzL.cons (Fz.of rfl) FzL.nil)) (hE _) ?_
  ((repeat' (first
    | (show SQ _ _ _ _ _ _ _ _; first | apply sq_nil | (apply q_move; exact rfl; exact rfl) | (apply q_pick_f; exact rfl; exact rfl; exact rfl; exact (by first | assumption | exact rfl)) | (apply q_not; exact rfl; exact rfl) | (apply q_neq; exact rfl; exact rfl; exact rfl) | (apply q_g; exact rfl; exact rfl; exact rfl; exact (by assumption)))
    | (show SQ _ _ _ _ _ _ _ _; (first | (apply q_callU; exact rfl; exact rfl; exact rfl; exact FzL.of rfl; exact hT _)); (try simp only [put, rowsOf, plR, List.all_cons, selE, ovr, setH, del, cellsA, splice, isV, List.nil_append, List.cons_append, List.map_cons, List.map_nil, List.length_cons, List.length_nil, List.set_cons_zero, List.set_cons_succ, List.take_succ_cons, List.take_zero, List.take_nil, List.drop_succ_cons, List.drop_zero, List.drop_nil, List.append_nil, List.all_cons, List.all_nil, Bool.and_true, Bool.true_and, Bool.and_false, Bool.false_and, Nat.reduceAdd, Nat.zero_add, Nat.add_zero, Nat.reduceEqDiff, if_true, if_false, reduceIte]))
    | (show AW _ _ _ _ _ _ _ _; first | refine aw_region ?_ | (refine aw_seqk ?_; intro K hK) | (apply aw_cond_f; exact rfl; exact (by assumption)) | refine aw_skip ?_)
    | refine thn_n ?_
    | (refine hK _ _ _ ?_; clear hK K))); all_goals (repeat (clear hK K)))
  refine q_callU rfl rfl rfl (FzL.cons (fz_ni (k := 1049579) (ls := ls) (look_skip (bs := niT ls) (base := 2099159) (by omega)) (.cons (by omega) (.skip (by omega) (.cons (by omega) (.cons (by omega) (.cons (by omega) (.skip (by omega) .here')))))) rfl) (FzL.cons (fz_ni rfl (.cons (by omega) .here) rfl) FzL.nil)) (hE0 _) ?_
  refine sq_sub (canon (O := [(2098158, niB 2098158 (prL ps)), (2098157, ⟨2, 1, true, cs.map inL⟩), (1049579, niB 1049579 ls)]) (b1 := 2098159) (b2 := 1049580) (L1 := niT (prL ps)) (L2 := niT ls) ⟨look_skip (bs := niT ls) (base := 2099159) (by omega), look_skip (bs := niT ls) (base := 2099159) (by omega), look_skip (bs := niT ls) (base := 2099159) (by omega), trivial⟩
    (.cons (by omega) (.skip (by omega) (.cons (by omega) (.cons (by omega) (.cons (by omega) .here))))) (.cons (by omega) (.skip (by omega) (.cons (by omega) (.cons (by omega) (.cons (by omega) (.skip (by omega) .here'))))))) ?_
  ((repeat' (first
    | (show SQ _ _ _ _ _ _ _ _; first | apply sq_nil | (apply q_move; exact rfl; exact rfl) | (apply q_assign; exact rfl; exact rfl) | (apply q_not; exact rfl; exact rfl))
    | (show SQ _ _ _ _ _ _ _ _; (first | (apply q_callU; exact rfl; exact rfl; exact rfl; exact FzL.of rfl; exact hT1 _) | (apply q_callU; exact rfl; exact rfl; exact rfl; rotate_left; exact hE1 _; rotate_right; focus ((repeat' (first | exact FzL.nil | exact (by assumption : FzC _) _ | refine FzL.cons ?_ ?_ | exact Fz.of rfl | exact Fz.nil | exact Fz.emp | (apply Fz.fnC; assumption) | (apply Fz.sl2; exact rfl; exact (by first | omega | (simp; done) | (simp; omega)); first | exact rfl | exact dt_full (by first | omega | (simp; done) | (simp; omega)) | assumption) | apply Fz.agg | (apply Fz.ptrL; exact rfl; first | exact rfl | assumption) | apply Fz.fnL)); done))); (try simp only [put, rowsOf, plR, List.all_cons, selE, ovr, setH, del, cellsA, splice, isV, List.nil_append, List.cons_append, List.map_cons, List.map_nil, List.length_cons, List.length_nil, List.set_cons_zero, List.set_cons_succ, List.take_succ_cons, List.take_zero, List.take_nil, List.drop_succ_cons, List.drop_zero, List.drop_nil, List.append_nil, List.all_cons, List.all_nil, Bool.and_true, Bool.true_and, Bool.and_false, Bool.false_and, Nat.reduceAdd, Nat.zero_add, Nat.add_zero, Nat.reduceEqDiff, if_true, if_false, reduceIte]))
    | (show AW _ _ _ _ _ _ _ _; first | refine aw_region ?_ | (refine aw_seqk ?_; intro K hK) | (apply aw_cond_f; exact rfl; exact rfl) | refine aw_skip ?_)
    | refine thn_n ?_
    | (refine hK _ _ _ ?_; clear hK K))); all_goals (repeat (clear hK K)))
  refine q_markN 1049579 ls (mkS 1 ls) ((2098158, niB 2098158 (prL ps)) :: (2098157, ⟨2, 1, true, cs.map inL⟩) :: nst 2098159 (niT (prL ps))) rfl rfl rfl (hM0 _) rfl (.cons (by omega) (.cons (by omega) (.cons (by omega) (.cons (by omega) (.skip (by omega) .here'))))) (fun i c hc => ?_) ?_
  · refine .inr ⟨nest_none ?_, canon1 (O := [(2098158, niB 2098158 (prL ps)), (2098157, ⟨2, 1, true, cs.map inL⟩)]) (b1 := 2098159) (L1 := niT (prL ps)) ⟨rfl, rfl, trivial⟩ (.cons (by omega) (.cons (by omega) (.cons (by omega) (.cons (by omega) .here)))) i c hc⟩
    have h2 := niT_len (mkS 1 ls)
    have h3 := mkS_len ls 1
    rcases List.mem_cons.1 (look_mem hc) with h | h
    · cases h; omega
    · rcases List.mem_cons.1 h with h | h
      · cases h; omega
      · obtain ⟨j, g1, g2⟩ := nst_mem _ _ _ h
        have := nlt g1
        dsimp only at g2
        omega
  ((repeat' (first
    | (show SQ _ _ _ _ _ _ _ _; first | apply sq_nil | (apply q_move; exact rfl; exact rfl) | (apply q_assign; exact rfl; exact rfl) | (apply q_lss; exact rfl; exact rfl; exact rfl) | (apply q_g; exact rfl; exact rfl; exact rfl; exact (by assumption)))
    | (show SQ _ _ _ _ _ _ _ _; (first | (apply q_callC; exact rfl; exact rfl; exact rfl; exact hM2 _; (focus ((repeat (first | exact trivial | refine ⟨by first | exact rfl | assumption, ?_⟩)); done)); skip)); (try simp only [put, rowsOf, plR, List.all_cons, selE, ovr, setH, del, cellsA, splice, isV, List.nil_append, List.cons_append, List.map_cons, List.map_nil, List.length_cons, List.length_nil, List.set_cons_zero, List.set_cons_succ, List.take_succ_cons, List.take_zero, List.take_nil, List.drop_succ_cons, List.drop_zero, List.drop_nil, List.append_nil, List.all_cons, List.all_nil, Bool.and_true, Bool.true_and, Bool.and_false, Bool.false_and, Nat.reduceAdd, Nat.zero_add, Nat.add_zero, Nat.reduceEqDiff, if_true, if_false, reduceIte]))
    | (show AW _ _ _ _ _ _ _ _; first | refine aw_region ?_ | (refine aw_seqk ?_; intro K hK))
    | refine thn_n ?_
    | (refine hK _ _ _ ?_; clear hK K))); all_goals (repeat (clear hK K)))
  refine sq_sub (canon1 (O := [(2098158, niB 2098158 (prL ps))]) (b1 := 2098159) (L1 := niT (prL ps)) ⟨rfl, trivial⟩ (.cons (by omega) (.cons (by omega) (NstIn.del (by omega) .here')))) ?_
  refine q_callU rfl rfl rfl (FzL.cons (fz_ni rfl (.cons (by omega) .here') hPl.symm) (FzL.cons (Fz.of rfl) FzL.nil)) (hE _) ?_
  ((repeat' (first
    | (show SQ _ _ _ _ _ _ _ _; first | apply sq_nil | (apply q_move; exact rfl; exact rfl) | (apply q_assign; exact rfl; exact rfl) | (apply q_pick_f; exact rfl; exact rfl; exact rfl; exact (by first | assumption | exact rfl)) | (apply q_not; exact rfl; exact rfl) | (apply q_neq; exact rfl; exact rfl; exact rfl) | (apply q_g; exact rfl; exact rfl; exact rfl; exact (by assumption)))
    | (show AW _ _ _ _ _ _ _ _; first | refine aw_region ?_ | (refine aw_seqk ?_; intro K hK) | (apply aw_cond_f; exact rfl; exact (by assumption)) | refine aw_skip ?_)
    | refine thn_n ?_
    | (refine hK _ _ _ ?_; clear hK K))); all_goals (repeat (clear hK K)))
  rw [hPl] at hM1
  refine q_markN 2098158 (prL ps) (mkS 1 (prL ps)) ((2098158, niB 2098158 (mkS 1 (prL ps))) :: nst 2098159 (niT (mkS 1 (prL ps)))) rfl rfl rfl (hM1 _) rfl (.cons (by omega) .here') (fun i c hc => .inl ?_) ?_
  · rwa [niB_mk] at hc
  ((repeat' (first
    | (show SQ _ _ _ _ _ _ _ _; first | apply sq_nil | (apply q_move; exact rfl; exact rfl) | (apply q_assign; exact rfl; exact rfl))
    | (show AW _ _ _ _ _ _ _ _; first | refine aw_region ?_ | (refine aw_seqk ?_; intro K hK))
    | refine thn_n ?_
    | (refine hK _ _ _ ?_; clear hK K))); all_goals (repeat (clear hK K)))
  refine q_callU rfl rfl rfl (FzL.cons (fz_ni rfl (.cons (by omega) .here') (by omega)) (FzL.cons (Fz.of rfl) FzL.nil)) (hH _) ?_
  ((repeat' (first
    | (show SQ _ _ _ _ _ _ _ _; first | apply sq_nil | (apply q_move; exact rfl; exact rfl) | (apply q_assign; exact rfl; exact rfl) | (apply q_neq; exact rfl; exact rfl; exact rfl) | (apply q_lss; exact rfl; exact rfl; exact rfl))
    | (show SQ _ _ _ _ _ _ _ _; (first | (apply q_callU; exact rfl; exact rfl; exact rfl; exact FzL.of rfl; exact hT _) | (apply q_callU; exact rfl; exact rfl; exact rfl; exact FzL.of rfl; exact hT1 _)); (try simp only [put, rowsOf, plR, List.all_cons, selE, ovr, setH, del, cellsA, splice, isV, List.nil_append, List.cons_append, List.map_cons, List.map_nil, List.length_cons, List.length_nil, List.set_cons_zero, List.set_cons_succ, List.take_succ_cons, List.take_zero, List.take_nil, List.drop_succ_cons, List.drop_zero, List.drop_nil, List.append_nil, List.all_cons, List.all_nil, Bool.and_true, Bool.true_and, Bool.and_false, Bool.false_and, Nat.reduceAdd, Nat.zero_add, Nat.add_zero, Nat.reduceEqDiff, if_true, if_false, reduceIte]))
    | (show AW _ _ _ _ _ _ _ _; first | refine aw_region ?_ | (refine aw_seqk ?_; intro K hK) | (apply aw_cond_f; exact rfl; exact rfl) | (apply aw_cond_f; exact rfl; exact (by assumption)) | refine aw_skip ?_)
    | refine thn_n ?_
    | (refine hK _ _ _ ?_; clear hK K))); all_goals (repeat (clear hK K)))
  refine q_callU rfl rfl rfl (FzL.cons (fz_ni rfl (.cons (by omega) (.cons (by omega) .here)) rfl) (FzL.cons (fz_in rfl rfl) FzL.nil)) (hI _) ?_
  refine sq_sub (canon (O := [(4196316, niB 4196316 (prL ps)), (2098158, niB 2098158 (mkS 1 (prL ps)))]) (b1 := 4196317) (b2 := 2098159) (L1 := niT (prL ps)) (L2 := niT (mkS 1 (prL ps))) ⟨rfl, (look_skip (bs := niT (prL ps)) (base := 4196317) (by omega)).trans (look_skip (bs := niT ls) (base := 3147738) (by omega)), trivial⟩
    (.cons (by omega) .here) (.cons (by omega) (.skip (by omega) (.cons (by omega) (.cons (by omega) (.skip (by omega) (.cons (by omega) .here'))))))) ?_
  ((repeat' (first
    | (show SQ _ _ _ _ _ _ _ _; first | apply sq_nil | (apply q_move; exact rfl; exact rfl) | (apply q_assign; exact rfl; exact rfl) | (apply q_ext; exact rfl; exact rfl; exact rfl))
    | (show AW _ _ _ _ _ _ _ _; first | refine aw_region ?_ | (refine aw_seqk ?_; intro K hK))
    | refine thn_n ?_
    | (refine hK _ _ _ ?_; clear hK K))); all_goals (repeat (clear hK K)))
  refine q_callU rfl rfl rfl (FzL.cons (fz_ni rfl (.cons (by omega) (.cons (by omega) .here)) hPl.symm) (FzL.cons (Fz.of rfl) FzL.nil)) (hE _) ?_
  ((repeat' (first
    | (show SQ _ _ _ _ _ _ _ _; first | apply sq_nil | (apply q_move; exact rfl; exact rfl) | (apply q_assign; exact rfl; exact rfl) | (apply q_pick_f; exact rfl; exact rfl; exact rfl; exact (by first | assumption | exact rfl)) | (apply q_not; exact rfl; exact rfl) | (apply q_neq; exact rfl; exact rfl; exact rfl) | (apply q_g; exact rfl; exact rfl; exact rfl; exact (by assumption)))
    | (show AW _ _ _ _ _ _ _ _; first | refine aw_region ?_ | (refine aw_seqk ?_; intro K hK) | (apply aw_cond_f; exact rfl; exact (by assumption)) | refine aw_skip ?_)
    | refine thn_n ?_
    | (refine hK _ _ _ ?_; clear hK K))); all_goals (repeat (clear hK K)))
  refine q_callU rfl rfl rfl (FzL.cons (fz_ni rfl (.cons (by omega) (.cons (by omega) (.skip (by omega) .here'))) (by omega)) (FzL.cons (Fz.of rfl) FzL.nil)) (hH _) ?_
  ((repeat' (first
    | (show SQ _ _ _ _ _ _ _ _; first | apply sq_nil | (apply q_move; exact rfl; exact rfl) | (apply q_assign; exact rfl; exact rfl) | (apply q_neq; exact rfl; exact rfl; exact rfl) | (apply q_lss; exact rfl; exact rfl; exact rfl))
    | (show AW _ _ _ _ _ _ _ _; first | refine aw_region ?_ | (refine aw_seqk ?_; intro K hK) | (apply aw_cond_f; exact rfl; exact rfl) | (apply aw_cond_f; exact rfl; exact (by assumption)) | refine aw_ret ?_ | refine aw_skip ?_)
    | refine thn_n ?_
    | (refine hK _ _ _ ?_; clear hK K))); all_goals (repeat (clear hK K)))
  all_goals exact fin_r (fin_b rfl rfl)
theorem closeClashes (v v1 : Value) (w : World) (h : Fr.IsIntss w v) (h1 : Fr.IsInts w v1) : Calls Try.prog 3 #[v, v1] w fun r w' => r = .returned (.bool true) ∧ Below w.heap.size w w' := by
  obtain ⟨ls, hv, hn, hl⟩ := h
  obtain ⟨cs, hv1, hc⟩ := h1
  exact RO.calls (k := 0) (lawClashes_ro ls cs hn hl hc 0) (K := fun k => k < w.heap.size) (fun _ h => h) (VRs.cons hv (VRs.cons hv1 VRs.nil))
end Go.Proofs.Yteknfaldpajlpaa.Nb
