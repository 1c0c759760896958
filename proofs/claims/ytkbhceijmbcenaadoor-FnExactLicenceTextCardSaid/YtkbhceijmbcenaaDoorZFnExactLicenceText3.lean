/-
  What the law FnExactLicenceText rests on, part 3.
-/
import Derived.Test.YtkbhceijmbcenaaDoorZFnExactLicenceText2
namespace Go.Proofs.YtkbhceijmbcenaaDoor.Dc
open Go Go.RowKit Go.Proofs.YtkbhceijmbcenaaDoor.Aw
set_option linter.unusedSimpArgs false
set_option linter.unusedVariables false
attribute [local irreducible] AW SQ Step RO RC DE Thn InB
def rdI (u : Nat) : List Int := if h : u = 0 then [] else (48 + ((u % 10 : Nat) : Int)) :: rdI (u / 10)
termination_by u
decreasing_by omega
theorem rdI_0 : rdI 0 = [] := by rw [rdI]; simp
theorem rdI_s {u : Nat} (h : u ≠ 0) : rdI u = (48 + ((u % 10 : Nat) : Int)) :: rdI (u / 10) := by rw [rdI, dif_neg h]
theorem rdI_len : ∀ (k u : Nat), u < 10 ^ k → (rdI u).length ≤ k
  | 0, u, h => by have : u = 0 := by simpa using h
                  subst this; rw [rdI_0]; simp
  | k + 1, u, h => by
    by_cases hu : u = 0
    · subst hu; rw [rdI_0]; simp
    · rw [rdI_s hu]
      have := rdI_len k (u / 10) (by rw [Nat.pow_succ] at h; omega)
      simp; omega
theorem rdI_map (u : Nat) : (rdI u).map (fun n => UInt8.ofNat n.toNat) = rdig u := by
  induction u using Nat.strongRecOn with
  | _ u ih =>
    by_cases hu : u = 0
    · subst hu; rw [rdI_0, rdig_0]; rfl
    · rw [rdI_s hu, rdig_s hu, List.map_cons, ih (u / 10) (by omega)]
      congr 1
theorem rdI_pos {u : Nat} (h : u ≠ 0) : 0 < (rdI u).length := by rw [rdI_s h]; simp
def dgs (n : Int) : List Int := if n < 0 then rdI n.natAbs ++ [45] else rdI n.natAbs
theorem dgs_itoa {n : Int} (h : n ≠ 0) : bstr (dgs n).reverse = bsA (Lib.itoa n) := by
  unfold dgs Lib.itoa bstr bsA
  split
  · rename_i hn
    rw [dec_rdig _ (by omega), ← rdI_map, List.reverse_append, List.map_append, List.map_reverse, List.map_reverse]
    rfl
  · rename_i hn
    have e : n.natAbs = n.toNat := by omega
    rw [e, dec_rdig _ (by omega), ← rdI_map, List.map_reverse]
theorem itoa_0 : Lib.itoa 0 = [48] := by
  unfold Lib.itoa
  simp
  rw [Lib.decDigits]
  simp
theorem itoa_len {n : Int} (h0 : -1000000000000000000 ≤ n) (h1 : n ≤ 1000000000000000000) : (Lib.itoa n).length ≤ 20 := by
  by_cases hn : n = 0
  · subst hn; rw [itoa_0]; simp
  · have e := congrArg ByteArray.size (dgs_itoa hn)
    rw [bsA_size] at e
    have hl : (dgs n).length ≤ 20 := by
      have := rdI_len 19 n.natAbs (by omega)
      unfold dgs
      split <;> simp <;> omega
    simp [bstr, ByteArray.size] at e
    omega
set_option maxHeartbeats 4000000 in
theorem l01Dec_0_ro (k : Nat) : RO Tryd.prog 28 [.v (.int .i64 0)] k (.v (.string (bsA (Lib.itoa 0)))) [] k := by
  have b1 : ((0 : Int) == 0) = true := rfl
  refine RO.ofv' Tryd.func28 Tryd.ntmps28 rfl (goFn_of Tryd.func28 rfl (by kernel_rfl)) rfl rfl ?_
  ((repeat' (first
    | (show SQ _ _ _ _ _ _ _ _; first | apply sq_nil | (apply q_move; exact rfl; exact rfl) | (apply q_assign; exact rfl; exact rfl) | (apply q_eql; exact rfl; exact rfl; exact rfl))
    | (show AW _ _ _ _ _ _ _ _; first | refine aw_region ?_ | (refine aw_seqk ?_; intro K hK) | (apply aw_cond_t; exact rfl; exact rfl) | refine aw_ret ?_)
    | refine thn_n ?_
    | (refine hK _ _ _ ?_; clear hK K)
    | refine thn_r ?_)); all_goals (repeat (clear hK K)))
  all_goals exact fin_r (fin_s rfl (by rw [itoa_0]; rfl))
def sgI (b : Bool) (u : Nat) : Int := if b then -(u : Int) else (u : Int)
theorem sgI_mod (b : Bool) (u : Nat) : (sgI b u).tmod 10 = sgI b (u % 10) := by
  cases b
  · exact IntWalk.up_tmod rfl rfl
  · show (-(u : Int)).tmod 10 = -((u % 10 : Nat) : Int)
    rw [Int.neg_tmod]; exact congrArg (fun x => -x) (IntWalk.up_tmod rfl rfl)
theorem sgI_div (b : Bool) (u : Nat) : (sgI b u).tdiv 10 = sgI b (u / 10) := by
  cases b
  · exact IntWalk.up_tdiv rfl rfl
  · show (-(u : Int)).tdiv 10 = -((u / 10 : Nat) : Int)
    rw [Int.neg_tdiv]; exact congrArg (fun x => -x) (IntWalk.up_tdiv rfl rfl)
theorem sgI_bd (b : Bool) (u : Nat) : -(u : Int) ≤ sgI b u ∧ sgI b u ≤ u := by cases b <;> simp [sgI] <;> omega
theorem code_of {x : Int} {d : Nat} (h : x = d) (hd : d < 10) : IntKind.u8.wrap (IntKind.i64.wrap (48 + x)) = 48 + (d : Int) := by
  subst h
  rw [IntWalk.i64_in _ (by omega), IntWalk.u8_in _ (by omega)]
set_option maxHeartbeats 4000000 in
theorem l01Dec_neg_ro (n : Int) (h0 : -1000000000000000000 ≤ n) (h1 : n ≤ 1000000000000000000) (c1 : n < 0) (k : Nat) : RO Tryd.prog 28 [.v (.int .i64 n)] k (.v (.string (bstr (rdI n.natAbs ++ [45]).reverse))) [] k := by
  have b0 : (n == 0) = false := by simp; omega
  have bn : decide (n < 0) = true := by simp; omega
  have hL := rdI_len 19 n.natAbs (by omega)
  have hLp := rdI_pos (u := n.natAbs) (by omega)
  have en : sgI true n.natAbs = n := by simp [sgI]; omega
  refine RO.ofv' Tryd.func28 Tryd.ntmps28 rfl (goFn_of Tryd.func28 rfl (by kernel_rfl)) rfl rfl ?_
  ((repeat' (first
    | (show SQ _ _ _ _ _ _ _ _; first | apply sq_nil | (apply q_move; exact rfl; exact rfl) | (apply q_assign; exact rfl; exact rfl) | (apply q_eql; exact rfl; exact rfl; exact rfl))
    | (show SQ _ _ _ _ _ _ _ _; (first | (apply q_build0; exact rfl; exact (ty rfl); exact rfl)); (try simp only [put, rowsOf, plR, List.all_cons, selE, ovr, setH, del, cellsA, splice, isV, List.nil_append, List.cons_append, List.map_cons, List.map_nil, List.length_cons, List.length_nil, List.set_cons_zero, List.set_cons_succ, List.take_succ_cons, List.take_zero, List.take_nil, List.drop_succ_cons, List.drop_zero, List.drop_nil, List.append_nil, List.all_cons, List.all_nil, Bool.and_true, Bool.true_and, Bool.and_false, Bool.false_and, Nat.reduceAdd, Nat.zero_add, Nat.add_zero, Nat.reduceEqDiff, if_true, if_false, reduceIte]))
    | (show AW _ _ _ _ _ _ _ _; first | refine aw_region ?_ | (refine aw_seqk ?_; intro K hK) | refine aw_block ?_ | (apply aw_cond_f; exact rfl; exact (by assumption)) | refine aw_skip ?_)
    | refine thn_n ?_
    | (refine hK _ _ _ ?_; clear hK K))); all_goals (repeat (clear hK K)))
  refine aw_loop (ρ := id) (ι := Nat × List Int) (fun st => ([(4, .v (.int .i64 (sgI true st.1))), (3, .sl 0 0 st.2.length), (0, .v (.int .i64 n))], [(0, ⟨5, 1, true, st.2.map u8L⟩)], 1))
    (fun st => rdI n.natAbs = st.2 ++ rdI st.1 ∧ st.1 ≤ n.natAbs) (fun st => st.1) (n.natAbs, []) ⟨rfl, Nat.le_refl _⟩ ?_ ?_
  · (try dsimp only)
    rw [en]
    exact ⟨by (repeat (refine ⟨by first | exact lk_i rfl rfl | exact lk_s rfl rfl rfl rfl, ?_⟩)); exact trivial, by (repeat (refine ⟨by first | exact ⟨rfl, rfl, rfl⟩, ?_⟩)); exact trivial, by rfl, by exact pin_0⟩
  rintro ⟨u, pre⟩ ⟨hi, hu⟩
  (try dsimp only at hi hu ⊢)
  have hpl : pre.length ≤ 19 := by have := congrArg List.length hi; rw [List.length_append] at this; omega
  have hml : (pre.map u8L).length = pre.length := List.length_map _
  have hbd := sgI_bd true u
  by_cases c2 : u = 0
  · have hpe : pre = rdI n.natAbs := by rw [hi, c2, rdI_0, List.append_nil]
    have hp0 : 0 < pre.length := by rw [hpe]; exact hLp
    have b1 : (sgI true u != 0) = false := by rw [c2]; rfl
    rw [← hpe]
    obtain ⟨D, hD⟩ : ∃ D, D = pre ++ [45] := ⟨_, rfl⟩
    have hDm : D.map u8L = (pre ++ [45]).map u8L := by rw [hD]
    have hDl : D.length = (pre ++ [45]).length := by rw [hD]
    rw [← hD]
    have hDp : 0 < D.length := by rw [hD]; first | omega | simp
    have hD20 : D.length ≤ 20 := by rw [hD]; first | omega | (simp; omega)
    have hDr : (D.map u8L).length = D.length := List.length_map _
    ((repeat' (first
    | (show SQ _ _ _ _ _ _ _ _; first | apply sq_nil | (apply q_move; exact rfl; exact rfl) | (apply q_assign; exact rfl; exact rfl) | (apply q_lenl; exact rfl; exact rfl; exact (ty rfl); exact rfl) | (apply q_sub; exact rfl; exact rfl; exact rfl) | (apply q_neq; exact rfl; exact rfl; exact rfl) | (apply q_lss; exact rfl; exact rfl; exact rfl))
    | (show SQ _ _ _ _ _ _ _ _; (first | (apply q_build0; exact rfl; exact (ty rfl); exact rfl) | (apply q_buildn; exact rfl; exact (ty rfl); exact rfl; exact rfl; exact rfl; exact rfl; exact rfl; exact rfl; exact rfl) | (apply q_apo_s; exact rfl; exact rfl; exact rfl; exact (ty rfl); exact rfl; exact rfl; exact (by first | omega | (simp; done) | (simp; omega)); exact (by first | exact List.take_of_length_le (by first | omega | (simp; done) | (simp; omega)) | rfl); exact (ty rfl); exact rfl; exact rfl; exact (by first | omega | (simp; done) | (simp; omega)); exact (by first | exact dt_full (by first | omega | (simp; done) | (simp; omega)) | assumption | rfl); exact rfl; exact (by first | omega | (simp; done) | (simp; omega)); exact (by first | omega | (simp; done) | (simp; omega)); exact (by first | assumption | exact rfl))); (try simp only [put, rowsOf, plR, List.all_cons, selE, ovr, setH, del, cellsA, splice, isV, List.nil_append, List.cons_append, List.map_cons, List.map_nil, List.length_cons, List.length_nil, List.set_cons_zero, List.set_cons_succ, List.take_succ_cons, List.take_zero, List.take_nil, List.drop_succ_cons, List.drop_zero, List.drop_nil, List.append_nil, List.all_cons, List.all_nil, Bool.and_true, Bool.true_and, Bool.and_false, Bool.false_and, Nat.reduceAdd, Nat.zero_add, Nat.add_zero, Nat.reduceEqDiff, if_true, if_false, reduceIte]))
    | (show AW _ _ _ _ _ _ _ _; first | refine aw_region ?_ | (refine aw_seqk ?_; intro K hK) | refine aw_block ?_ | (apply aw_cond_t; exact rfl; exact (by assumption)) | (apply aw_cond_f; exact rfl; exact (by assumption)) | refine aw_exit ?_)
    | refine thn_n ?_
    | (refine hK _ _ _ ?_; clear hK K)
    | refine thn_e ?_
    | refine inb_same ?_
    | (clear hK K; refine hK _ _ _ ?_; clear hK K))); all_goals (repeat (clear hK K)))
    refine aw_loop (ρ := (fun i => [2, 3].getD i 0)) (ι := Nat) (fun j => ([(7, .v (.int .i64 ((D.length : Int) - 1 - j))), (6, .sl 1 0 (D.reverse.take j).length), (3, .sl 0 0 D.length)], [(0, ⟨5, 1, true, D.map u8L⟩), (1, ⟨5, 1, true, (D.reverse.take j).map u8L⟩)], 2))
      (fun j => j ≤ D.length) (fun j => D.length - j) 0 (Nat.zero_le _) ?_ ?_
    · (try dsimp only)
      have hw : IntKind.i64.wrap (((pre ++ [45]).length : Int) - 1) = (D.length : Int) - 1 - ((0 : Nat) : Int) := by rw [← hDl, IntWalk.i64_in _ (by omega)]; omega
      rw [← hw, hDm, hDl, List.take_zero]
      try rw [List.map_append, List.length_append]
      exact ⟨by (repeat (refine ⟨by first | exact lk_i rfl rfl | exact lk_s rfl rfl rfl rfl, ?_⟩)); exact trivial, by (repeat (refine ⟨by first | exact ⟨rfl, rfl, rfl⟩, ?_⟩)); exact trivial, by rfl, by exact pin_0⟩
    intro j hj
    (try dsimp only)
    have htl : (D.reverse.take j).length = j := by rw [List.length_take, List.length_reverse]; omega
    have htm : ((D.reverse.take j).map u8L).length = (D.reverse.take j).length := List.length_map _
    by_cases c4 : j < D.length
    · have b3 : decide ((0 : Int) ≤ (D.length : Int) - 1 - j) = true := by simp; omega
      have hix : ((D.length : Int) - 1 - (j : Int)).toNat = D.length - 1 - j := by omega
      have hlt : D.length - 1 - j < D.length := by omega
      have hrow : (D.map u8L)[0 + ((D.length : Int) - 1 - (j : Int)).toNat]? = some (u8L D[D.length - 1 - j]) := by rw [Nat.zero_add, hix, List.getElem?_map, List.getElem?_eq_getElem hlt]; rfl
      have hw2 : IntKind.i64.wrap ((D.length : Int) - 1 - (j : Int) - 1) = (D.length : Int) - 1 - ((j + 1 : Nat) : Int) := by rw [IntWalk.i64_in _ (by omega)]; omega
      have e1 : D.reverse.take (j + 1) = D.reverse.take j ++ [D[D.length - 1 - j]] := by
        rw [List.take_add_one, List.getElem?_eq_getElem (by rw [List.length_reverse]; exact c4), List.getElem_reverse]; rfl
      have hu8 : u8L D[D.length - 1 - j] = [.v (.int .u8 D[D.length - 1 - j])] := rfl
      rw [hu8] at hrow
      ((repeat' (first
    | (show SQ _ _ _ _ _ _ _ _; first | apply sq_nil | (apply q_move; exact rfl; exact rfl) | (apply q_assign; exact rfl; exact rfl) | (apply q_sub; exact rfl; exact rfl; exact rfl) | (apply q_geq; exact rfl; exact rfl; exact rfl) | (apply q_ixl; exact rfl; exact rfl; exact rfl; exact (ty rfl); exact rfl; exact rfl; exact rfl; exact (by first | omega | (simp; done) | (simp; omega)); exact (by first | omega | (simp; done) | (simp; omega))) | (apply q_ld1p; exact rfl; exact rfl; exact (ty rfl); exact rfl; exact rfl; exact (by first | rfl | assumption | ((try simp only [Nat.zero_add]); refine List.getElem?_set_self ?_; (try simp only [List.length_set]); assumption)); exact rfl))
    | (show SQ _ _ _ _ _ _ _ _; (first | (apply q_buildn; exact rfl; exact (ty rfl); exact rfl; exact rfl; exact rfl; exact rfl; exact rfl; exact rfl; exact rfl) | (apply q_apo_s; exact rfl; exact rfl; exact rfl; exact (ty rfl); exact rfl; exact rfl; exact (by first | omega | (simp; done) | (simp; omega)); exact (by first | exact List.take_of_length_le (by first | omega | (simp; done) | (simp; omega)) | rfl); exact (ty rfl); exact rfl; exact rfl; exact (by first | omega | (simp; done) | (simp; omega)); exact (by first | exact dt_full (by first | omega | (simp; done) | (simp; omega)) | assumption | rfl); exact rfl; exact (by first | omega | (simp; done) | (simp; omega)); exact (by first | omega | (simp; done) | (simp; omega)); exact (by first | assumption | exact rfl))); (try simp only [put, rowsOf, plR, List.all_cons, selE, ovr, setH, del, cellsA, splice, isV, List.nil_append, List.cons_append, List.map_cons, List.map_nil, List.length_cons, List.length_nil, List.set_cons_zero, List.set_cons_succ, List.take_succ_cons, List.take_zero, List.take_nil, List.drop_succ_cons, List.drop_zero, List.drop_nil, List.append_nil, List.all_cons, List.all_nil, Bool.and_true, Bool.true_and, Bool.and_false, Bool.false_and, Nat.reduceAdd, Nat.zero_add, Nat.add_zero, Nat.reduceEqDiff, if_true, if_false, reduceIte]))
    | (show AW _ _ _ _ _ _ _ _; first | refine aw_region ?_ | (refine aw_seqk ?_; intro K hK) | refine aw_block ?_ | (apply aw_cond_t; exact rfl; exact (by assumption)) | refine aw_skip ?_)
    | refine thn_n ?_
    | (refine hK _ _ _ ?_; clear hK K)
    | refine inb_n ?_)); all_goals (repeat (clear hK K)))
      all_goals (refine ⟨j + 1, mv 1 3, c4, by omega, ?_⟩; (try dsimp only); rw [e1, List.map_append, List.length_append, ← hw2]; exact ⟨by (repeat (refine ⟨by first | exact lk_i rfl rfl | exact lk_s rfl rfl rfl rfl, ?_⟩)); exact trivial, by (repeat (refine ⟨by first | exact ⟨rfl, rfl, rfl⟩, ?_⟩)); exact trivial, by rfl, by exact pin_0⟩)
    · have b3 : decide ((0 : Int) ≤ (D.length : Int) - 1 - j) = false := by simp; omega
      have hje : j = D.length := by omega
      have e2 : D.reverse.take j = D.reverse := List.take_of_length_le (by rw [List.length_reverse]; omega)
      rw [e2] at htm ⊢
      have hrl : D.reverse.length = D.length := List.length_reverse
      ((repeat' (first
    | (show SQ _ _ _ _ _ _ _ _; first | apply sq_nil | (apply q_move; exact rfl; exact rfl) | (apply q_geq; exact rfl; exact rfl; exact rfl))
    | (show AW _ _ _ _ _ _ _ _; first | refine aw_region ?_ | (refine aw_seqk ?_; intro K hK) | (apply aw_cond_f; exact rfl; exact (by assumption)) | refine aw_exit ?_)
    | refine thn_n ?_
    | (refine hK _ _ _ ?_; clear hK K)
    | refine thn_e ?_
    | refine inb_same ?_
    | (clear hK K; refine hK _ _ _ ?_; clear hK K))); all_goals (repeat (clear hK K)))
      all_goals refine sq_step rfl rfl (s_bytestr (ns := D.reverse) rfl (ty rfl) rfl (ty rfl) rfl (ty rfl) rfl rfl rfl (by omega) (by rw [htm]; omega) (by rw [List.drop_zero, List.take_of_length_le (by rw [htm]; exact Nat.le_refl _)])) ?_
      ((repeat' (first
    | (show SQ _ _ _ _ _ _ _ _; first | apply sq_nil | (apply q_assign; exact rfl; exact rfl))
    | (show AW _ _ _ _ _ _ _ _; first | refine aw_ret ?_)
    | refine thn_n ?_
    | (refine hK _ _ _ ?_; clear hK K))); all_goals (repeat (clear hK K)))
      all_goals exact fin_r (fin_s rfl (by rw [hD, hpe]))
  · have b1 : (sgI true u != 0) = true := by simp [sgI]; omega
    have hm := sgI_mod true u
    have hq := sgI_div true u
    have hb2 := sgI_bd true (u / 10)
    have hq2 : IntKind.i64.wrap ((sgI true u).tdiv 10) = sgI true (u / 10) := by rw [hq]; exact IntWalk.i64_in _ (by omega)
    have hstep := rdI_s c2
    by_cases c3 : sgI true (u % 10) < 0
    · have b2 : decide ((sgI true u).tmod 10 < 0) = true := by rw [hm]; simpa using c3
      have hc : IntKind.u8.wrap (IntKind.i64.wrap (48 + IntKind.i64.wrap (0 - (sgI true u).tmod 10))) = 48 + ((u % 10 : Nat) : Int) := by
        refine code_of ?_ (Nat.mod_lt _ (by omega))
        rw [hm, IntWalk.i64_in _ (by simp [sgI] at c3 ⊢; omega)]
        simp [sgI] at c3 ⊢; try omega
      ((repeat' (first
    | (show SQ _ _ _ _ _ _ _ _; first | apply sq_nil | (apply q_move; exact rfl; exact rfl) | (apply q_assign; exact rfl; exact rfl) | (apply q_neg; exact rfl; exact rfl) | (apply q_conv; exact rfl; exact rfl; exact (ty rfl); exact rfl; exact (ty rfl)) | (apply q_add; exact rfl; exact rfl; exact rfl) | (apply q_quo; exact rfl; exact rfl; exact rfl; exact (by first | decide | omega)) | (apply q_rem; exact rfl; exact rfl; exact rfl; exact (by first | decide | omega)) | (apply q_neq; exact rfl; exact rfl; exact rfl) | (apply q_lss; exact rfl; exact rfl; exact rfl))
    | (show SQ _ _ _ _ _ _ _ _; (first | (apply q_buildn; exact rfl; exact (ty rfl); exact rfl; exact rfl; exact rfl; exact rfl; exact rfl; exact rfl; exact rfl) | (apply q_apo_s; exact rfl; exact rfl; exact rfl; exact (ty rfl); exact rfl; exact rfl; exact (by first | omega | (simp; done) | (simp; omega)); exact (by first | exact List.take_of_length_le (by first | omega | (simp; done) | (simp; omega)) | rfl); exact (ty rfl); exact rfl; exact rfl; exact (by first | omega | (simp; done) | (simp; omega)); exact (by first | exact dt_full (by first | omega | (simp; done) | (simp; omega)) | assumption | rfl); exact rfl; exact (by first | omega | (simp; done) | (simp; omega)); exact (by first | omega | (simp; done) | (simp; omega)); exact (by first | assumption | exact rfl))); (try simp only [put, rowsOf, plR, List.all_cons, selE, ovr, setH, del, cellsA, splice, isV, List.nil_append, List.cons_append, List.map_cons, List.map_nil, List.length_cons, List.length_nil, List.set_cons_zero, List.set_cons_succ, List.take_succ_cons, List.take_zero, List.take_nil, List.drop_succ_cons, List.drop_zero, List.drop_nil, List.append_nil, List.all_cons, List.all_nil, Bool.and_true, Bool.true_and, Bool.and_false, Bool.false_and, Nat.reduceAdd, Nat.zero_add, Nat.add_zero, Nat.reduceEqDiff, if_true, if_false, reduceIte]))
    | (show AW _ _ _ _ _ _ _ _; first | refine aw_region ?_ | (refine aw_seqk ?_; intro K hK) | refine aw_block ?_ | (apply aw_cond_t; exact rfl; exact (by assumption)) | refine aw_skip ?_)
    | refine thn_n ?_
    | (refine hK _ _ _ ?_; clear hK K)
    | refine inb_n ?_)); all_goals (repeat (clear hK K)))
      all_goals (refine ⟨(u / 10, pre ++ [48 + ((u % 10 : Nat) : Int)]), mv 0 2, ⟨by dsimp only; rw [List.append_assoc, List.singleton_append, ← hstep]; exact hi, by dsimp only; omega⟩, by dsimp only; omega, ?_⟩; (try dsimp only); rw [← hq2, List.map_append, List.length_append, ← hc]; exact ⟨by (repeat (refine ⟨by first | exact lk_i rfl rfl | exact lk_s rfl rfl rfl rfl, ?_⟩)); exact trivial, by (repeat (refine ⟨by first | exact ⟨rfl, rfl, rfl⟩, ?_⟩)); exact trivial, by rfl, by exact pin_0⟩)
    · have b2 : decide ((sgI true u).tmod 10 < 0) = false := by rw [hm]; simpa using c3
      have hc : IntKind.u8.wrap (IntKind.i64.wrap (48 + (sgI true u).tmod 10)) = 48 + ((u % 10 : Nat) : Int) := by
        refine code_of ?_ (Nat.mod_lt _ (by omega))
        rw [hm]
        simp [sgI] at c3 ⊢; try omega
      ((repeat' (first
    | (show SQ _ _ _ _ _ _ _ _; first | apply sq_nil | (apply q_move; exact rfl; exact rfl) | (apply q_assign; exact rfl; exact rfl) | (apply q_conv; exact rfl; exact rfl; exact (ty rfl); exact rfl; exact (ty rfl)) | (apply q_add; exact rfl; exact rfl; exact rfl) | (apply q_quo; exact rfl; exact rfl; exact rfl; exact (by first | decide | omega)) | (apply q_rem; exact rfl; exact rfl; exact rfl; exact (by first | decide | omega)) | (apply q_neq; exact rfl; exact rfl; exact rfl) | (apply q_lss; exact rfl; exact rfl; exact rfl))
    | (show SQ _ _ _ _ _ _ _ _; (first | (apply q_buildn; exact rfl; exact (ty rfl); exact rfl; exact rfl; exact rfl; exact rfl; exact rfl; exact rfl; exact rfl) | (apply q_apo_s; exact rfl; exact rfl; exact rfl; exact (ty rfl); exact rfl; exact rfl; exact (by first | omega | (simp; done) | (simp; omega)); exact (by first | exact List.take_of_length_le (by first | omega | (simp; done) | (simp; omega)) | rfl); exact (ty rfl); exact rfl; exact rfl; exact (by first | omega | (simp; done) | (simp; omega)); exact (by first | exact dt_full (by first | omega | (simp; done) | (simp; omega)) | assumption | rfl); exact rfl; exact (by first | omega | (simp; done) | (simp; omega)); exact (by first | omega | (simp; done) | (simp; omega)); exact (by first | assumption | exact rfl))); (try simp only [put, rowsOf, plR, List.all_cons, selE, ovr, setH, del, cellsA, splice, isV, List.nil_append, List.cons_append, List.map_cons, List.map_nil, List.length_cons, List.length_nil, List.set_cons_zero, List.set_cons_succ, List.take_succ_cons, List.take_zero, List.take_nil, List.drop_succ_cons, List.drop_zero, List.drop_nil, List.append_nil, List.all_cons, List.all_nil, Bool.and_true, Bool.true_and, Bool.and_false, Bool.false_and, Nat.reduceAdd, Nat.zero_add, Nat.add_zero, Nat.reduceEqDiff, if_true, if_false, reduceIte]))
    | (show AW _ _ _ _ _ _ _ _; first | refine aw_region ?_ | (refine aw_seqk ?_; intro K hK) | refine aw_block ?_ | (apply aw_cond_t; exact rfl; exact (by assumption)) | (apply aw_cond_f; exact rfl; exact (by assumption)) | refine aw_skip ?_)
    | refine thn_n ?_
    | (refine hK _ _ _ ?_; clear hK K)
    | refine inb_n ?_)); all_goals (repeat (clear hK K)))
      all_goals (refine ⟨(u / 10, pre ++ [48 + ((u % 10 : Nat) : Int)]), mv 0 2, ⟨by dsimp only; rw [List.append_assoc, List.singleton_append, ← hstep]; exact hi, by dsimp only; omega⟩, by dsimp only; omega, ?_⟩; (try dsimp only); rw [← hq2, List.map_append, List.length_append, ← hc]; exact ⟨by (repeat (refine ⟨by first | exact lk_i rfl rfl | exact lk_s rfl rfl rfl rfl, ?_⟩)); exact trivial, by (repeat (refine ⟨by first | exact ⟨rfl, rfl, rfl⟩, ?_⟩)); exact trivial, by rfl, by exact pin_0⟩)
set_option maxHeartbeats 4000000 in
theorem l01Dec_pos_ro (n : Int) (h0 : -1000000000000000000 ≤ n) (h1 : n ≤ 1000000000000000000) (c1 : 0 < n) (k : Nat) : RO Tryd.prog 28 [.v (.int .i64 n)] k (.v (.string (bstr (rdI n.natAbs).reverse))) [] k := by
  have b0 : (n == 0) = false := by simp; omega
  have bn : decide (n < 0) = false := by simp; omega
  have hL := rdI_len 19 n.natAbs (by omega)
  have hLp := rdI_pos (u := n.natAbs) (by omega)
  have en : sgI false n.natAbs = n := by simp [sgI]; omega
  refine RO.ofv' Tryd.func28 Tryd.ntmps28 rfl (goFn_of Tryd.func28 rfl (by kernel_rfl)) rfl rfl ?_
  ((repeat' (first
    | (show SQ _ _ _ _ _ _ _ _; first | apply sq_nil | (apply q_move; exact rfl; exact rfl) | (apply q_assign; exact rfl; exact rfl) | (apply q_eql; exact rfl; exact rfl; exact rfl))
    | (show SQ _ _ _ _ _ _ _ _; (first | (apply q_build0; exact rfl; exact (ty rfl); exact rfl)); (try simp only [put, rowsOf, plR, List.all_cons, selE, ovr, setH, del, cellsA, splice, isV, List.nil_append, List.cons_append, List.map_cons, List.map_nil, List.length_cons, List.length_nil, List.set_cons_zero, List.set_cons_succ, List.take_succ_cons, List.take_zero, List.take_nil, List.drop_succ_cons, List.drop_zero, List.drop_nil, List.append_nil, List.all_cons, List.all_nil, Bool.and_true, Bool.true_and, Bool.and_false, Bool.false_and, Nat.reduceAdd, Nat.zero_add, Nat.add_zero, Nat.reduceEqDiff, if_true, if_false, reduceIte]))
    | (show AW _ _ _ _ _ _ _ _; first | refine aw_region ?_ | (refine aw_seqk ?_; intro K hK) | refine aw_block ?_ | (apply aw_cond_f; exact rfl; exact (by assumption)) | refine aw_skip ?_)
    | refine thn_n ?_
    | (refine hK _ _ _ ?_; clear hK K))); all_goals (repeat (clear hK K)))
  refine aw_loop (ρ := id) (ι := Nat × List Int) (fun st => ([(4, .v (.int .i64 (sgI false st.1))), (3, .sl 0 0 st.2.length), (0, .v (.int .i64 n))], [(0, ⟨5, 1, true, st.2.map u8L⟩)], 1))
    (fun st => rdI n.natAbs = st.2 ++ rdI st.1 ∧ st.1 ≤ n.natAbs) (fun st => st.1) (n.natAbs, []) ⟨rfl, Nat.le_refl _⟩ ?_ ?_
  · (try dsimp only)
    rw [en]
    exact ⟨by (repeat (refine ⟨by first | exact lk_i rfl rfl | exact lk_s rfl rfl rfl rfl, ?_⟩)); exact trivial, by (repeat (refine ⟨by first | exact ⟨rfl, rfl, rfl⟩, ?_⟩)); exact trivial, by rfl, by exact pin_0⟩
  rintro ⟨u, pre⟩ ⟨hi, hu⟩
  (try dsimp only at hi hu ⊢)
  have hpl : pre.length ≤ 19 := by have := congrArg List.length hi; rw [List.length_append] at this; omega
  have hml : (pre.map u8L).length = pre.length := List.length_map _
  have hbd := sgI_bd false u
  by_cases c2 : u = 0
  · have hpe : pre = rdI n.natAbs := by rw [hi, c2, rdI_0, List.append_nil]
    have hp0 : 0 < pre.length := by rw [hpe]; exact hLp
    have b1 : (sgI false u != 0) = false := by rw [c2]; rfl
    rw [← hpe]
    obtain ⟨D, hD⟩ : ∃ D, D = pre := ⟨_, rfl⟩
    have hDm : D.map u8L = (pre).map u8L := by rw [hD]
    have hDl : D.length = (pre).length := by rw [hD]
    rw [← hD]
    have hDp : 0 < D.length := by rw [hD]; first | omega | simp
    have hD20 : D.length ≤ 20 := by rw [hD]; first | omega | (simp; omega)
    have hDr : (D.map u8L).length = D.length := List.length_map _
    ((repeat' (first
    | (show SQ _ _ _ _ _ _ _ _; first | apply sq_nil | (apply q_move; exact rfl; exact rfl) | (apply q_assign; exact rfl; exact rfl) | (apply q_lenl; exact rfl; exact rfl; exact (ty rfl); exact rfl) | (apply q_sub; exact rfl; exact rfl; exact rfl) | (apply q_neq; exact rfl; exact rfl; exact rfl) | (apply q_lss; exact rfl; exact rfl; exact rfl))
    | (show SQ _ _ _ _ _ _ _ _; (first | (apply q_build0; exact rfl; exact (ty rfl); exact rfl)); (try simp only [put, rowsOf, plR, List.all_cons, selE, ovr, setH, del, cellsA, splice, isV, List.nil_append, List.cons_append, List.map_cons, List.map_nil, List.length_cons, List.length_nil, List.set_cons_zero, List.set_cons_succ, List.take_succ_cons, List.take_zero, List.take_nil, List.drop_succ_cons, List.drop_zero, List.drop_nil, List.append_nil, List.all_cons, List.all_nil, Bool.and_true, Bool.true_and, Bool.and_false, Bool.false_and, Nat.reduceAdd, Nat.zero_add, Nat.add_zero, Nat.reduceEqDiff, if_true, if_false, reduceIte]))
    | (show AW _ _ _ _ _ _ _ _; first | refine aw_region ?_ | (refine aw_seqk ?_; intro K hK) | refine aw_block ?_ | (apply aw_cond_f; exact rfl; exact (by assumption)) | refine aw_exit ?_ | refine aw_skip ?_)
    | refine thn_n ?_
    | (refine hK _ _ _ ?_; clear hK K)
    | refine thn_e ?_
    | refine inb_same ?_
    | (clear hK K; refine hK _ _ _ ?_; clear hK K))); all_goals (repeat (clear hK K)))
    refine aw_loop (ρ := id) (ι := Nat) (fun j => ([(7, .v (.int .i64 ((D.length : Int) - 1 - j))), (6, .sl 1 0 (D.reverse.take j).length), (3, .sl 0 0 D.length)], [(0, ⟨5, 1, true, D.map u8L⟩), (1, ⟨5, 1, true, (D.reverse.take j).map u8L⟩)], 2))
      (fun j => j ≤ D.length) (fun j => D.length - j) 0 (Nat.zero_le _) ?_ ?_
    · (try dsimp only)
      have hw : IntKind.i64.wrap (((pre).length : Int) - 1) = (D.length : Int) - 1 - ((0 : Nat) : Int) := by rw [← hDl, IntWalk.i64_in _ (by omega)]; omega
      rw [← hw, hDm, hDl, List.take_zero]
      try rw [List.map_append, List.length_append]
      exact ⟨by (repeat (refine ⟨by first | exact lk_i rfl rfl | exact lk_s rfl rfl rfl rfl, ?_⟩)); exact trivial, by (repeat (refine ⟨by first | exact ⟨rfl, rfl, rfl⟩, ?_⟩)); exact trivial, by rfl, by exact pin_0⟩
    intro j hj
    (try dsimp only)
    have htl : (D.reverse.take j).length = j := by rw [List.length_take, List.length_reverse]; omega
    have htm : ((D.reverse.take j).map u8L).length = (D.reverse.take j).length := List.length_map _
    by_cases c4 : j < D.length
    · have b3 : decide ((0 : Int) ≤ (D.length : Int) - 1 - j) = true := by simp; omega
      have hix : ((D.length : Int) - 1 - (j : Int)).toNat = D.length - 1 - j := by omega
      have hlt : D.length - 1 - j < D.length := by omega
      have hrow : (D.map u8L)[0 + ((D.length : Int) - 1 - (j : Int)).toNat]? = some (u8L D[D.length - 1 - j]) := by rw [Nat.zero_add, hix, List.getElem?_map, List.getElem?_eq_getElem hlt]; rfl
      have hw2 : IntKind.i64.wrap ((D.length : Int) - 1 - (j : Int) - 1) = (D.length : Int) - 1 - ((j + 1 : Nat) : Int) := by rw [IntWalk.i64_in _ (by omega)]; omega
      have e1 : D.reverse.take (j + 1) = D.reverse.take j ++ [D[D.length - 1 - j]] := by
        rw [List.take_add_one, List.getElem?_eq_getElem (by rw [List.length_reverse]; exact c4), List.getElem_reverse]; rfl
      have hu8 : u8L D[D.length - 1 - j] = [.v (.int .u8 D[D.length - 1 - j])] := rfl
      rw [hu8] at hrow
      ((repeat' (first
    | (show SQ _ _ _ _ _ _ _ _; first | apply sq_nil | (apply q_move; exact rfl; exact rfl) | (apply q_assign; exact rfl; exact rfl) | (apply q_sub; exact rfl; exact rfl; exact rfl) | (apply q_geq; exact rfl; exact rfl; exact rfl) | (apply q_ixl; exact rfl; exact rfl; exact rfl; exact (ty rfl); exact rfl; exact rfl; exact rfl; exact (by first | omega | (simp; done) | (simp; omega)); exact (by first | omega | (simp; done) | (simp; omega))) | (apply q_ld1p; exact rfl; exact rfl; exact (ty rfl); exact rfl; exact rfl; exact (by first | rfl | assumption | ((try simp only [Nat.zero_add]); refine List.getElem?_set_self ?_; (try simp only [List.length_set]); assumption)); exact rfl))
    | (show SQ _ _ _ _ _ _ _ _; (first | (apply q_buildn; exact rfl; exact (ty rfl); exact rfl; exact rfl; exact rfl; exact rfl; exact rfl; exact rfl; exact rfl) | (apply q_apo_s; exact rfl; exact rfl; exact rfl; exact (ty rfl); exact rfl; exact rfl; exact (by first | omega | (simp; done) | (simp; omega)); exact (by first | exact List.take_of_length_le (by first | omega | (simp; done) | (simp; omega)) | rfl); exact (ty rfl); exact rfl; exact rfl; exact (by first | omega | (simp; done) | (simp; omega)); exact (by first | exact dt_full (by first | omega | (simp; done) | (simp; omega)) | assumption | rfl); exact rfl; exact (by first | omega | (simp; done) | (simp; omega)); exact (by first | omega | (simp; done) | (simp; omega)); exact (by first | assumption | exact rfl))); (try simp only [put, rowsOf, plR, List.all_cons, selE, ovr, setH, del, cellsA, splice, isV, List.nil_append, List.cons_append, List.map_cons, List.map_nil, List.length_cons, List.length_nil, List.set_cons_zero, List.set_cons_succ, List.take_succ_cons, List.take_zero, List.take_nil, List.drop_succ_cons, List.drop_zero, List.drop_nil, List.append_nil, List.all_cons, List.all_nil, Bool.and_true, Bool.true_and, Bool.and_false, Bool.false_and, Nat.reduceAdd, Nat.zero_add, Nat.add_zero, Nat.reduceEqDiff, if_true, if_false, reduceIte]))
    | (show AW _ _ _ _ _ _ _ _; first | refine aw_region ?_ | (refine aw_seqk ?_; intro K hK) | refine aw_block ?_ | (apply aw_cond_t; exact rfl; exact (by assumption)) | refine aw_skip ?_)
    | refine thn_n ?_
    | (refine hK _ _ _ ?_; clear hK K)
    | refine inb_n ?_)); all_goals (repeat (clear hK K)))
      all_goals (refine ⟨j + 1, mv 1 3, c4, by omega, ?_⟩; (try dsimp only); rw [e1, List.map_append, List.length_append, ← hw2]; exact ⟨by (repeat (refine ⟨by first | exact lk_i rfl rfl | exact lk_s rfl rfl rfl rfl, ?_⟩)); exact trivial, by (repeat (refine ⟨by first | exact ⟨rfl, rfl, rfl⟩, ?_⟩)); exact trivial, by rfl, by exact pin_0⟩)
    · have b3 : decide ((0 : Int) ≤ (D.length : Int) - 1 - j) = false := by simp; omega
      have hje : j = D.length := by omega
      have e2 : D.reverse.take j = D.reverse := List.take_of_length_le (by rw [List.length_reverse]; omega)
      rw [e2] at htm ⊢
      have hrl : D.reverse.length = D.length := List.length_reverse
      ((repeat' (first
    | (show SQ _ _ _ _ _ _ _ _; first | apply sq_nil | (apply q_move; exact rfl; exact rfl) | (apply q_geq; exact rfl; exact rfl; exact rfl))
    | (show AW _ _ _ _ _ _ _ _; first | refine aw_region ?_ | (refine aw_seqk ?_; intro K hK) | (apply aw_cond_f; exact rfl; exact (by assumption)) | refine aw_exit ?_)
    | refine thn_n ?_
    | (refine hK _ _ _ ?_; clear hK K)
    | refine thn_e ?_
    | refine inb_same ?_
    | (clear hK K; refine hK _ _ _ ?_; clear hK K))); all_goals (repeat (clear hK K)))
      all_goals refine sq_step rfl rfl (s_bytestr (ns := D.reverse) rfl (ty rfl) rfl (ty rfl) rfl (ty rfl) rfl rfl rfl (by omega) (by rw [htm]; omega) (by rw [List.drop_zero, List.take_of_length_le (by rw [htm]; exact Nat.le_refl _)])) ?_
      ((repeat' (first
    | (show SQ _ _ _ _ _ _ _ _; first | apply sq_nil | (apply q_assign; exact rfl; exact rfl))
    | (show AW _ _ _ _ _ _ _ _; first | refine aw_ret ?_)
    | refine thn_n ?_
    | (refine hK _ _ _ ?_; clear hK K))); all_goals (repeat (clear hK K)))
      all_goals exact fin_r (fin_s rfl (by rw [hD, hpe]))
  · have b1 : (sgI false u != 0) = true := by simp [sgI]; omega
    have hm := sgI_mod false u
    have hq := sgI_div false u
    have hb2 := sgI_bd false (u / 10)
    have hq2 : IntKind.i64.wrap ((sgI false u).tdiv 10) = sgI false (u / 10) := by rw [hq]; exact IntWalk.i64_in _ (by omega)
    have hstep := rdI_s c2
    have c3 : ¬ sgI false (u % 10) < 0 := by simp only [sgI, Bool.false_eq_true, if_false]; omega
    have b2 : decide ((sgI false u).tmod 10 < 0) = false := by rw [hm]; simpa using c3
    have hc : IntKind.u8.wrap (IntKind.i64.wrap (48 + (sgI false u).tmod 10)) = 48 + ((u % 10 : Nat) : Int) := by
      refine code_of ?_ (Nat.mod_lt _ (by omega))
      rw [hm]
      simp [sgI] at c3 ⊢; try omega
    ((repeat' (first
    | (show SQ _ _ _ _ _ _ _ _; first | apply sq_nil | (apply q_move; exact rfl; exact rfl) | (apply q_assign; exact rfl; exact rfl) | (apply q_conv; exact rfl; exact rfl; exact (ty rfl); exact rfl; exact (ty rfl)) | (apply q_add; exact rfl; exact rfl; exact rfl) | (apply q_quo; exact rfl; exact rfl; exact rfl; exact (by first | decide | omega)) | (apply q_rem; exact rfl; exact rfl; exact rfl; exact (by first | decide | omega)) | (apply q_neq; exact rfl; exact rfl; exact rfl) | (apply q_lss; exact rfl; exact rfl; exact rfl))
    | (show SQ _ _ _ _ _ _ _ _; (first | (apply q_buildn; exact rfl; exact (ty rfl); exact rfl; exact rfl; exact rfl; exact rfl; exact rfl; exact rfl; exact rfl) | (apply q_apo_s; exact rfl; exact rfl; exact rfl; exact (ty rfl); exact rfl; exact rfl; exact (by first | omega | (simp; done) | (simp; omega)); exact (by first | exact List.take_of_length_le (by first | omega | (simp; done) | (simp; omega)) | rfl); exact (ty rfl); exact rfl; exact rfl; exact (by first | omega | (simp; done) | (simp; omega)); exact (by first | exact dt_full (by first | omega | (simp; done) | (simp; omega)) | assumption | rfl); exact rfl; exact (by first | omega | (simp; done) | (simp; omega)); exact (by first | omega | (simp; done) | (simp; omega)); exact (by first | assumption | exact rfl))); (try simp only [put, rowsOf, plR, List.all_cons, selE, ovr, setH, del, cellsA, splice, isV, List.nil_append, List.cons_append, List.map_cons, List.map_nil, List.length_cons, List.length_nil, List.set_cons_zero, List.set_cons_succ, List.take_succ_cons, List.take_zero, List.take_nil, List.drop_succ_cons, List.drop_zero, List.drop_nil, List.append_nil, List.all_cons, List.all_nil, Bool.and_true, Bool.true_and, Bool.and_false, Bool.false_and, Nat.reduceAdd, Nat.zero_add, Nat.add_zero, Nat.reduceEqDiff, if_true, if_false, reduceIte]))
    | (show AW _ _ _ _ _ _ _ _; first | refine aw_region ?_ | (refine aw_seqk ?_; intro K hK) | refine aw_block ?_ | (apply aw_cond_f; exact rfl; exact rfl) | (apply aw_cond_t; exact rfl; exact (by assumption)) | refine aw_skip ?_)
    | refine thn_n ?_
    | (refine hK _ _ _ ?_; clear hK K)
    | refine inb_n ?_)); all_goals (repeat (clear hK K)))
    all_goals (refine ⟨(u / 10, pre ++ [48 + ((u % 10 : Nat) : Int)]), mv 0 2, ⟨by dsimp only; rw [List.append_assoc, List.singleton_append, ← hstep]; exact hi, by dsimp only; omega⟩, by dsimp only; omega, ?_⟩; (try dsimp only); rw [← hq2, List.map_append, List.length_append, ← hc]; exact ⟨by (repeat (refine ⟨by first | exact lk_i rfl rfl | exact lk_s rfl rfl rfl rfl, ?_⟩)); exact trivial, by (repeat (refine ⟨by first | exact ⟨rfl, rfl, rfl⟩, ?_⟩)); exact trivial, by rfl, by exact pin_0⟩)
set_option maxHeartbeats 4000000 in
theorem l01Dec_ro (n : Int) (h0 : -1000000000000000000 ≤ n) (h1 : n ≤ 1000000000000000000) (k : Nat) : RO Tryd.prog 28 [.v (.int .i64 n)] k (.v (.string (bsA (Lib.itoa n)))) [] k := by
  by_cases c0 : n = 0
  · subst c0; exact l01Dec_0_ro k
  · have hd := dgs_itoa c0
    unfold dgs at hd
    rw [← hd]
    split
    · rename_i c1; exact l01Dec_neg_ro n h0 h1 c1 k
    · rename_i c1; exact l01Dec_pos_ro n h0 h1 (by omega) k
end Go.Proofs.YtkbhceijmbcenaaDoor.Dc

namespace Go.Proofs.YtkbhceijmbcenaaDoor.In
open Go Go.RowKit Go.Proofs.YtkbhceijmbcenaaDoor.Aw
set_option linter.unusedSimpArgs false
set_option linter.unusedVariables false
attribute [local irreducible] AW SQ Step RO RC DE Thn InB
def inB (n lo hi : Int) : Bool := decide (lo ≤ n) && decide (n ≤ hi)
set_option maxHeartbeats 4000000 in
theorem within_ro (n lo hi : Int) (k : Nat) : RO Tryd.prog 22 [.v (.int .i64 n), .v (.int .i64 lo), .v (.int .i64 hi)] k (.v (.bool (inB n lo hi))) [] k := by
  refine RO.ofv' Tryd.func22 Tryd.ntmps22 rfl (goFn_of Tryd.func22 rfl (by kernel_rfl)) rfl rfl ?_
  ((repeat' (first
    | (show SQ _ _ _ _ _ _ _ _; first | apply sq_nil | (apply q_move; exact rfl; exact rfl) | (apply q_assign; exact rfl; exact rfl) | (apply q_pick_t; exact rfl; exact rfl; exact rfl; exact (by first | assumption | exact rfl)) | (apply q_pick_f; exact rfl; exact rfl; exact rfl; exact (by first | assumption | exact rfl)) | (apply q_leq; exact rfl; exact rfl; exact rfl) | (apply q_geq; exact rfl; exact rfl; exact rfl) | (apply q_sleq; exact rfl; exact rfl; exact rfl) | (apply q_sgeq; exact rfl; exact rfl; exact rfl) | (apply q_g; exact rfl; exact rfl; exact rfl; exact (by assumption)) | (apply q_s; exact rfl; exact rfl; exact rfl; exact (by assumption); exact rfl) | (apply q_g; exact rfl; exact rfl; exact rfl; exact rfl) | (apply q_s; exact rfl; exact rfl; exact rfl; exact rfl; exact rfl) | (apply q_sU; exact rfl; exact rfl; exact rfl; exact rfl))
    | (show SQ _ _ _ _ _ _ _ _; apply q_gs; exact rfl; exact rfl; exact rfl; exact rfl; all_goals intro h)
    | (show AW _ _ _ _ _ _ _ _; first | refine aw_region ?_ | (refine aw_seqk ?_; intro K hK) | refine aw_block ?_ | (apply aw_cond_t; exact rfl; exact rfl) | (apply aw_cond_f; exact rfl; exact rfl) | (apply aw_cond_t; exact rfl; exact (by assumption)) | (apply aw_cond_f; exact rfl; exact (by assumption)) | refine aw_ret ?_ | refine aw_exit ?_ | refine aw_skip ?_ | (apply aw_ite; exact rfl; all_goals intro h))
    | refine thn_n ?_
    | (refine hK _ _ _ ?_; clear hK K)
    | refine thn_e ?_
    | refine thn_r ?_
    | refine inb_same ?_
    | refine inb_ne rfl ?_
    | refine inb_n ?_
    | refine inb_r ?_
    | (clear hK K; refine hK _ _ _ ?_; clear hK K)
    | (clear hK K; clear hK K; refine hK _ _ _ ?_; clear hK K)
    | (clear hK K; clear hK K; clear hK K; refine hK _ _ _ ?_; clear hK K))); all_goals (repeat (clear hK K)))
  all_goals refine fin_r (fin_b rfl ?_)
  all_goals simp_all [inB]
  all_goals omega
set_option maxHeartbeats 4000000 in
theorem l00In_ro (n lo hi : Int) (k : Nat) : RO Tryd.prog 16 [.v (.int .i64 n), .v (.int .i64 lo), .v (.int .i64 hi)] k (.v (.bool (inB n lo hi))) [] k := by
  refine RO.ofv' Tryd.func16 Tryd.ntmps16 rfl (goFn_of Tryd.func16 rfl (by kernel_rfl)) rfl rfl ?_
  ((repeat' (first
    | (show SQ _ _ _ _ _ _ _ _; first | apply sq_nil | (apply q_move; exact rfl; exact rfl) | (apply q_assign; exact rfl; exact rfl) | (apply q_pick_t; exact rfl; exact rfl; exact rfl; exact (by first | assumption | exact rfl)) | (apply q_pick_f; exact rfl; exact rfl; exact rfl; exact (by first | assumption | exact rfl)) | (apply q_leq; exact rfl; exact rfl; exact rfl) | (apply q_geq; exact rfl; exact rfl; exact rfl) | (apply q_sleq; exact rfl; exact rfl; exact rfl) | (apply q_sgeq; exact rfl; exact rfl; exact rfl) | (apply q_g; exact rfl; exact rfl; exact rfl; exact (by assumption)) | (apply q_s; exact rfl; exact rfl; exact rfl; exact (by assumption); exact rfl) | (apply q_g; exact rfl; exact rfl; exact rfl; exact rfl) | (apply q_s; exact rfl; exact rfl; exact rfl; exact rfl; exact rfl) | (apply q_sU; exact rfl; exact rfl; exact rfl; exact rfl))
    | (show SQ _ _ _ _ _ _ _ _; apply q_gs; exact rfl; exact rfl; exact rfl; exact rfl; all_goals intro h)
    | (show AW _ _ _ _ _ _ _ _; first | refine aw_region ?_ | (refine aw_seqk ?_; intro K hK) | refine aw_block ?_ | (apply aw_cond_t; exact rfl; exact rfl) | (apply aw_cond_f; exact rfl; exact rfl) | (apply aw_cond_t; exact rfl; exact (by assumption)) | (apply aw_cond_f; exact rfl; exact (by assumption)) | refine aw_ret ?_ | refine aw_exit ?_ | refine aw_skip ?_ | (apply aw_ite; exact rfl; all_goals intro h))
    | refine thn_n ?_
    | (refine hK _ _ _ ?_; clear hK K)
    | refine thn_e ?_
    | refine thn_r ?_
    | refine inb_same ?_
    | refine inb_ne rfl ?_
    | refine inb_n ?_
    | refine inb_r ?_
    | (clear hK K; refine hK _ _ _ ?_; clear hK K)
    | (clear hK K; clear hK K; refine hK _ _ _ ?_; clear hK K)
    | (clear hK K; clear hK K; clear hK K; refine hK _ _ _ ?_; clear hK K))); all_goals (repeat (clear hK K)))
  all_goals refine fin_r (fin_b rfl ?_)
  all_goals simp_all [inB]
  all_goals omega
set_option maxHeartbeats 4000000 in
theorem IsName_ro (s : ByteArray) (hs : s.size ≤ 9223372036854775807) (k : Nat) : RO Tryd.prog 19 [.v (.string s)] k (.v (.bool (Nm.nameB s))) [] k := by
  refine RO.plain k (goFn_of Tryd.func19 rfl (by kernel_rfl)) fun K w xs hk hv => ?_
  obtain ⟨hl, hv⟩ := hv
  match xs, hl with
  | [x], _ =>
    have := hv 0 _ x rfl rfl
    cases this
    exact (Nm.IsName_any s w hs).mono fun e w' ⟨h1, h2⟩ => by subst h2; exact ⟨h1, Below.refl _ _⟩
set_option maxHeartbeats 4000000 in
theorem l01Name_ro (s : ByteArray) (hs : s.size ≤ 9223372036854775807) (k : Nat) : RO Tryd.prog 13 [.v (.string s)] k (.v (.bool (Nm.nameB s))) [] k := by
  refine RO.plain k (goFn_of Tryd.func13 rfl (by kernel_rfl)) fun K w xs hk hv => ?_
  obtain ⟨hl, hv⟩ := hv
  match xs, hl with
  | [x], _ =>
    have := hv 0 _ x rfl rfl
    cases this
    exact (Nm.l01Name_any s w hs).mono fun e w' ⟨h1, h2⟩ => by subst h2; exact ⟨h1, Below.refl _ _⟩
end Go.Proofs.YtkbhceijmbcenaaDoor.In

namespace Go.Proofs.YtkbhceijmbcenaaDoor.Il
open Go Go.RowKit Go.Proofs.YtkbhceijmbcenaaDoor.Aw Go.Proofs.YtkbhceijmbcenaaDoor.In
set_option linter.unusedSimpArgs false
set_option linter.unusedVariables false
attribute [local irreducible] AW SQ Step RO RC DE Thn InB
def inL (x : Int) : List AV := [.v (.int .i64 x)]
theorem inL_eq (x : Int) : inL x = [.v (.int .i64 x)] := rfl
end Go.Proofs.YtkbhceijmbcenaaDoor.Il

namespace Go.Proofs.YtkbhceijmbcenaaDoor.Dc
open Go Go.RowKit Go.Proofs.YtkbhceijmbcenaaDoor.Aw Go.Proofs.YtkbhceijmbcenaaDoor.Ar Go.Proofs.YtkbhceijmbcenaaDoor.Li Go.Proofs.YtkbhceijmbcenaaDoor.Il
set_option linter.unusedSimpArgs false
set_option linter.unusedVariables false
attribute [local irreducible] AW SQ Step RO RC DE Thn InB
def jnT (xs : List Int) : List UInt8 := Lib.join (xs.map Lib.itoa) [44]
theorem jnT_nil : jnT [] = [] := rfl
theorem jnT_one (x : Int) : jnT [x] = Lib.itoa x := Lib.join_one _ _
theorem jnT_app {xs : List Int} (y : Int) (h : xs ≠ []) : jnT (xs ++ [y]) = jnT xs ++ [44] ++ Lib.itoa y := by
  match xs, h with
  | x :: r, _ =>
    unfold jnT
    rw [List.cons_append, List.map_cons, List.map_cons, Lib.join_cons, Lib.join_cons, List.map_append]
    simp [Lib.joinTail]
def smL (xs : List Int) : Prop := ∀ x ∈ xs, -1000000000000 ≤ x ∧ x ≤ 1000000000000
theorem jnT_take {xs : List Int} (h : smL xs) : ∀ i, i ≤ xs.length → (jnT (xs.take i)).length ≤ 21 * i
  | 0, _ => by simp [jnT_nil]
  | i + 1, hi => by
    have h1 := jnT_take h i (by omega)
    have hx := h _ (List.getElem_mem (show i < xs.length by omega))
    have h2 := itoa_len (n := xs[i]) (by omega) (by omega)
    have et : xs.take (i + 1) = xs.take i ++ [xs[i]] := by rw [List.take_add_one, List.getElem?_eq_getElem (by omega)]; rfl
    rw [et]
    by_cases h0 : xs.take i = []
    · rw [h0, List.nil_append, jnT_one]; omega
    · rw [jnT_app _ h0]; simp; omega
theorem jnT_len (xs : List Int) (h : smL xs) : (jnT xs).length ≤ 21 * xs.length := by
  have := jnT_take h xs.length (Nat.le_refl _)
  rwa [List.take_length] at this
set_option maxHeartbeats 4000000 in
theorem l01List_ro (xs : List Int) (h0 : xs ≠ []) (hn : xs.length ≤ 64) (hs : smL xs) (k : Nat) : RO Tryd.prog 18 [.dsl 1 (xs.map inL)] k (.v (.string (bsA (jnT xs)))) [] k := by
  have hp : 0 < xs.length := List.length_pos_iff.2 h0
  have b0 : (((xs.map inL).length : Int) == 0) = false := by simp; omega
  refine RO.ofv' Tryd.func18 Tryd.ntmps18 rfl (goFn_of Tryd.func18 rfl (by kernel_rfl)) rfl rfl ?_
  ((repeat' (first
    | (show SQ _ _ _ _ _ _ _ _; first | apply sq_nil | (apply q_move; exact rfl; exact rfl) | (apply q_assign; exact rfl; exact rfl) | (apply q_lend; exact rfl; exact rfl; exact (ty rfl); exact rfl) | (apply q_eql; exact rfl; exact rfl; exact rfl))
    | (show AW _ _ _ _ _ _ _ _; first | refine aw_region ?_ | (refine aw_seqk ?_; intro K hK) | refine aw_block ?_ | (apply aw_cond_f; exact rfl; exact (by assumption)) | refine aw_skip ?_)
    | refine thn_n ?_
    | (refine hK _ _ _ ?_; clear hK K))); all_goals (repeat (clear hK K)))
  refine aw_loop (ρ := id) (ι := Nat) (fun i => ([(4, .v (.int .i64 i)), (3, .v (.string (bsA (jnT (xs.take i))))), (0, .dsl 1 (xs.map inL))], [], 0))
    (fun i => i ≤ xs.length) (fun i => xs.length - i) 0 (Nat.zero_le _) ⟨by (repeat (refine ⟨by first | exact lk_i rfl rfl | exact lk_d rfl rfl | exact lk_v rfl rfl, ?_⟩)); exact trivial, by exact trivial, by rfl, by exact pin_0⟩ ?_
  intro i hi
  (try dsimp only)
  have hst : smL (xs.take i) := fun x hx => hs x (List.mem_of_mem_take hx)
  have hjl := jnT_take hs i hi
  by_cases c2 : i < xs.length
  · have b1 : decide ((i : Int) < ((xs.map inL).length : Int)) = true := by simpa using c2
    have hrow : (xs.map inL)[((i : Int)).toNat]? = some (inL xs[i]) := by simp [c2]
    rw [inL_eq] at hrow
    have hx := hs _ (List.getElem_mem c2)
    have hD := l01Dec_ro xs[i] (by omega) (by omega)
    have hil := itoa_len (n := xs[i]) (by omega) (by omega)
    have et : xs.take (i + 1) = xs.take i ++ [xs[i]] := by rw [List.take_add_one, List.getElem?_eq_getElem c2]; rfl
    have hw1 : IntKind.i64.wrap ((i : Int) + 1) = ((i + 1 : Nat) : Int) := by rw [IntWalk.i64_in _ (by omega)]; omega
    have z1 : (⟨#[44]⟩ : ByteArray).size = 1 := rfl
    have s1 : (bsA (jnT (xs.take i))).size + (⟨#[44]⟩ : ByteArray).size ≤ 9223372036854775807 := by rw [bsA_size, z1]; omega
    have s2 : (bsA (jnT (xs.take i)) ++ (⟨#[44]⟩ : ByteArray)).size + (bsA (Lib.itoa xs[i])).size ≤ 9223372036854775807 := by
      rw [ByteArray.size_append, bsA_size, bsA_size, z1]; omega
    have s3 : (bsA (jnT (xs.take i))).size + (bsA (Lib.itoa xs[i])).size ≤ 9223372036854775807 := by rw [bsA_size, bsA_size]; omega
    generalize xs[i] = x at *
    by_cases c3 : i = 0
    · have b2 : decide ((0 : Int) < (i : Int)) = false := by simp; omega
      have e1 : bsA (jnT (xs.take i)) ++ bsA (Lib.itoa x) = bsA (jnT (xs.take (i + 1))) := by
        rw [et, bsA_app]; subst c3; simp [jnT_nil, jnT_one]
      ((repeat' (first
    | (show SQ _ _ _ _ _ _ _ _; first | apply sq_nil | (apply q_move; exact rfl; exact rfl) | (apply q_assign; exact rfl; exact rfl) | (apply q_lend; exact rfl; exact rfl; exact (ty rfl); exact rfl) | (apply q_add; exact rfl; exact rfl; exact rfl) | (apply q_lss; exact rfl; exact rfl; exact rfl) | (apply q_gtr; exact rfl; exact rfl; exact rfl) | (apply q_cat; exact rfl; exact rfl; exact rfl; exact (by first | omega | (simp; done) | (simp; omega))) | (apply q_ixd; exact rfl; exact rfl; exact rfl; exact (ty rfl); exact rfl; exact (by first | omega | (simp; done) | (simp; omega)); exact (by first | omega | (simp; done) | (simp; omega)); exact (by first | rfl | assumption)) | (apply q_ld1d; exact rfl; exact rfl; exact (ty rfl); exact rfl; exact rfl))
    | (show SQ _ _ _ _ _ _ _ _; (first | (apply q_callU; exact rfl; exact rfl; exact rfl; exact FzL.of rfl; exact hD _)); (try simp only [put, rowsOf, plR, List.all_cons, selE, ovr, setH, del, cellsA, splice, isV, List.nil_append, List.cons_append, List.map_cons, List.map_nil, List.length_cons, List.length_nil, List.set_cons_zero, List.set_cons_succ, List.take_succ_cons, List.take_zero, List.take_nil, List.drop_succ_cons, List.drop_zero, List.drop_nil, List.append_nil, List.all_cons, List.all_nil, Bool.and_true, Bool.true_and, Bool.and_false, Bool.false_and, Nat.reduceAdd, Nat.zero_add, Nat.add_zero, Nat.reduceEqDiff, if_true, if_false, reduceIte]))
    | (show AW _ _ _ _ _ _ _ _; first | refine aw_region ?_ | (refine aw_seqk ?_; intro K hK) | refine aw_block ?_ | (apply aw_cond_t; exact rfl; exact (by assumption)) | (apply aw_cond_f; exact rfl; exact (by assumption)) | refine aw_skip ?_)
    | refine thn_n ?_
    | (refine hK _ _ _ ?_; clear hK K)
    | refine inb_n ?_)); all_goals (repeat (clear hK K)))
      all_goals (refine ⟨i + 1, id, c2, by omega, ?_⟩; (try dsimp only); rw [← e1, ← hw1]; exact ⟨by (repeat (refine ⟨by first | exact lk_i rfl rfl | exact lk_d rfl rfl | exact lk_v rfl rfl, ?_⟩)); exact trivial, by exact trivial, by rfl, by exact pin_0⟩)
    · have b2 : decide ((0 : Int) < (i : Int)) = true := by simp; omega
      have e1 : bsA (jnT (xs.take i)) ++ (⟨#[44]⟩ : ByteArray) ++ bsA (Lib.itoa x) = bsA (jnT (xs.take (i + 1))) := by
        have : xs.take i ≠ [] := fun e => by have := congrArg List.length e; rw [List.length_take, List.length_nil] at this; omega
        rw [et, jnT_app x this, ← bsA_app, ← bsA_app]; rfl
      ((repeat' (first
    | (show SQ _ _ _ _ _ _ _ _; first | apply sq_nil | (apply q_move; exact rfl; exact rfl) | (apply q_assign; exact rfl; exact rfl) | (apply q_lend; exact rfl; exact rfl; exact (ty rfl); exact rfl) | (apply q_add; exact rfl; exact rfl; exact rfl) | (apply q_lss; exact rfl; exact rfl; exact rfl) | (apply q_gtr; exact rfl; exact rfl; exact rfl) | (apply q_cat; exact rfl; exact rfl; exact rfl; exact (by first | omega | (simp; done) | (simp; omega))) | (apply q_ixd; exact rfl; exact rfl; exact rfl; exact (ty rfl); exact rfl; exact (by first | omega | (simp; done) | (simp; omega)); exact (by first | omega | (simp; done) | (simp; omega)); exact (by first | rfl | assumption)) | (apply q_ld1d; exact rfl; exact rfl; exact (ty rfl); exact rfl; exact rfl))
    | (show SQ _ _ _ _ _ _ _ _; (first | (apply q_callU; exact rfl; exact rfl; exact rfl; exact FzL.of rfl; exact hD _)); (try simp only [put, rowsOf, plR, List.all_cons, selE, ovr, setH, del, cellsA, splice, isV, List.nil_append, List.cons_append, List.map_cons, List.map_nil, List.length_cons, List.length_nil, List.set_cons_zero, List.set_cons_succ, List.take_succ_cons, List.take_zero, List.take_nil, List.drop_succ_cons, List.drop_zero, List.drop_nil, List.append_nil, List.all_cons, List.all_nil, Bool.and_true, Bool.true_and, Bool.and_false, Bool.false_and, Nat.reduceAdd, Nat.zero_add, Nat.add_zero, Nat.reduceEqDiff, if_true, if_false, reduceIte]))
    | (show AW _ _ _ _ _ _ _ _; first | refine aw_region ?_ | (refine aw_seqk ?_; intro K hK) | refine aw_block ?_ | (apply aw_cond_t; exact rfl; exact (by assumption)) | refine aw_skip ?_)
    | refine thn_n ?_
    | (refine hK _ _ _ ?_; clear hK K)
    | refine inb_n ?_)); all_goals (repeat (clear hK K)))
      all_goals (refine ⟨i + 1, id, c2, by omega, ?_⟩; (try dsimp only); rw [← e1, ← hw1]; exact ⟨by (repeat (refine ⟨by first | exact lk_i rfl rfl | exact lk_d rfl rfl | exact lk_v rfl rfl, ?_⟩)); exact trivial, by exact trivial, by rfl, by exact pin_0⟩)
  · have b1 : decide ((i : Int) < ((xs.map inL).length : Int)) = false := by simpa using c2
    have e2 : xs.take i = xs := List.take_of_length_le (by omega)
    rw [e2]
    ((repeat' (first
    | (show SQ _ _ _ _ _ _ _ _; first | apply sq_nil | (apply q_move; exact rfl; exact rfl) | (apply q_assign; exact rfl; exact rfl) | (apply q_lend; exact rfl; exact rfl; exact (ty rfl); exact rfl) | (apply q_lss; exact rfl; exact rfl; exact rfl))
    | (show AW _ _ _ _ _ _ _ _; first | refine aw_region ?_ | (refine aw_seqk ?_; intro K hK) | (apply aw_cond_f; exact rfl; exact (by assumption)) | refine aw_ret ?_ | refine aw_exit ?_)
    | refine thn_n ?_
    | (refine hK _ _ _ ?_; clear hK K)
    | refine thn_e ?_
    | refine inb_same ?_
    | (clear hK K; refine hK _ _ _ ?_; clear hK K))); all_goals (repeat (clear hK K)))
    all_goals exact fin_r (fin_s rfl rfl)
def tx (x : Int) : ByteArray := bsA (Lib.itoa x)
set_option maxHeartbeats 4000000 in
theorem ListText_ro (xs : List Int) (h0 : xs ≠ []) (hn : xs.length ≤ 64) (hs : smL xs) (k : Nat) : RO Tryd.prog 12 [.dsl 1 (xs.map inL)] k (.v (.string (bsA (jnT xs)))) [] k := by
  have hp : 0 < xs.length := List.length_pos_iff.2 h0
  have b0 : (((xs.map inL).length : Int) == 0) = false := by simp; omega
  have b1 : decide ((64 : Int) < ((xs.map inL).length : Int)) = false := by simp; omega
  refine RO.ofv' Tryd.func12 Tryd.ntmps12 rfl (goFn_of Tryd.func12 rfl (by kernel_rfl)) rfl rfl ?_
  ((repeat' (first
    | (show SQ _ _ _ _ _ _ _ _; first | apply sq_nil | (apply q_move; exact rfl; exact rfl) | (apply q_assign; exact rfl; exact rfl) | (apply q_lend; exact rfl; exact rfl; exact (ty rfl); exact rfl) | (apply q_eql; exact rfl; exact rfl; exact rfl) | (apply q_gtr; exact rfl; exact rfl; exact rfl))
    | (show SQ _ _ _ _ _ _ _ _; (first | (apply q_mks; exact rfl; exact rfl; exact rfl; exact (ty rfl); exact rfl; exact (by first | omega | (simp; done) | (simp; omega)); exact (by first | omega | (simp; done) | (simp; omega)); exact (by first | omega | (simp; done) | (simp; omega)); exact (by first | omega | (simp; done) | (simp; omega)); exact rfl; exact rfl)); (try simp only [put, rowsOf, plR, List.all_cons, selE, ovr, setH, del, cellsA, splice, isV, List.nil_append, List.cons_append, List.map_cons, List.map_nil, List.length_cons, List.length_nil, List.set_cons_zero, List.set_cons_succ, List.take_succ_cons, List.take_zero, List.take_nil, List.drop_succ_cons, List.drop_zero, List.drop_nil, List.append_nil, List.all_cons, List.all_nil, Bool.and_true, Bool.true_and, Bool.and_false, Bool.false_and, Nat.reduceAdd, Nat.zero_add, Nat.add_zero, Nat.reduceEqDiff, if_true, if_false, reduceIte]))
    | (show AW _ _ _ _ _ _ _ _; first | refine aw_region ?_ | (refine aw_seqk ?_; intro K hK) | refine aw_block ?_ | (apply aw_cond_f; exact rfl; exact (by assumption)) | refine aw_skip ?_)
    | refine thn_n ?_
    | (refine hK _ _ _ ?_; clear hK K))); all_goals (repeat (clear hK K)))
  refine aw_loop (ρ := id) (ι := Nat) (fun i => ([(17, .v (.int .i64 i)), (16, .v (.int .i64 ((xs.map inL).length))), (15, .dsl 1 (xs.map inL)), (3, .sl 0 0 (xs.take i).length)], [(0, ⟨9, 1, true, ((xs.take i).map tx).map stL⟩)], 1))
    (fun i => i ≤ xs.length) (fun i => xs.length - i) 0 (Nat.zero_le _) ⟨by (repeat (refine ⟨by first | exact lk_i rfl rfl | exact lk_d rfl rfl | exact lk_s rfl rfl rfl rfl, ?_⟩)); exact trivial, by (repeat (refine ⟨by first | exact ⟨rfl, rfl, rfl⟩, ?_⟩)); exact trivial, by rfl, by exact pin_0⟩ ?_
  intro i hi
  (try dsimp only)
  have htl : (xs.take i).length = i := by rw [List.length_take]; omega
  have hml : (((xs.take i).map tx).map stL).length = (xs.take i).length := by simp
  by_cases c2 : i < xs.length
  · have b2 : decide ((i : Int) < ((xs.map inL).length : Int)) = true := by simpa using c2
    have hrow : (xs.map inL)[((i : Int)).toNat]? = some (inL xs[i]) := by simp [c2]
    rw [inL_eq] at hrow
    have hx := hs _ (List.getElem_mem c2)
    have hD := Decimal_ro xs[i] (by omega) (by omega)
    have et : xs.take (i + 1) = xs.take i ++ [xs[i]] := by rw [List.take_add_one, List.getElem?_eq_getElem c2]; rfl
    have hw1 : IntKind.i64.wrap ((i : Int) + 1) = ((i + 1 : Nat) : Int) := by rw [IntWalk.i64_in _ (by omega)]; omega
    generalize xs[i] = x at *
    have b3 : (!inB x (-1000000000000) 1000000000000) = false := by simp [inB]; omega
    ((repeat' (first
    | (show SQ _ _ _ _ _ _ _ _; first | apply sq_nil | (apply q_move; exact rfl; exact rfl) | (apply q_assign; exact rfl; exact rfl) | (apply q_not; exact rfl; exact rfl) | (apply q_add; exact rfl; exact rfl; exact rfl) | (apply q_lss; exact rfl; exact rfl; exact rfl) | (apply q_ixd; exact rfl; exact rfl; exact rfl; exact (ty rfl); exact rfl; exact (by first | omega | (simp; done) | (simp; omega)); exact (by first | omega | (simp; done) | (simp; omega)); exact (by first | rfl | assumption)) | (apply q_ld1d; exact rfl; exact rfl; exact (ty rfl); exact rfl; exact rfl))
    | (show SQ _ _ _ _ _ _ _ _; (first | (apply q_buildn; exact rfl; exact (ty rfl); exact rfl; exact rfl; exact rfl; exact rfl; exact rfl; exact rfl; exact rfl) | (apply q_apo_s; exact rfl; exact rfl; exact rfl; exact (ty rfl); exact rfl; exact rfl; exact (by first | omega | (simp; done) | (simp; omega)); exact (by first | exact List.take_of_length_le (by first | omega | (simp; done) | (simp; omega)) | rfl); exact (ty rfl); exact rfl; exact rfl; exact (by first | omega | (simp; done) | (simp; omega)); exact (by first | exact dt_full (by first | omega | (simp; done) | (simp; omega)) | assumption | rfl); exact rfl; exact (by first | omega | (simp; done) | (simp; omega)); exact (by first | omega | (simp; done) | (simp; omega)); exact (by first | assumption | exact rfl)) | (apply q_callU; exact rfl; exact rfl; exact rfl; exact FzL.of rfl; exact within_ro _ _ _ _) | (apply q_callU; exact rfl; exact rfl; exact rfl; exact FzL.of rfl; exact hD _)); (try simp only [put, rowsOf, plR, List.all_cons, selE, ovr, setH, del, cellsA, splice, isV, List.nil_append, List.cons_append, List.map_cons, List.map_nil, List.length_cons, List.length_nil, List.set_cons_zero, List.set_cons_succ, List.take_succ_cons, List.take_zero, List.take_nil, List.drop_succ_cons, List.drop_zero, List.drop_nil, List.append_nil, List.all_cons, List.all_nil, Bool.and_true, Bool.true_and, Bool.and_false, Bool.false_and, Nat.reduceAdd, Nat.zero_add, Nat.add_zero, Nat.reduceEqDiff, if_true, if_false, reduceIte]))
    | (show AW _ _ _ _ _ _ _ _; first | refine aw_region ?_ | (refine aw_seqk ?_; intro K hK) | refine aw_block ?_ | (apply aw_cond_t; exact rfl; exact (by assumption)) | (apply aw_cond_f; exact rfl; exact (by assumption)) | refine aw_skip ?_)
    | refine thn_n ?_
    | (refine hK _ _ _ ?_; clear hK K)
    | refine inb_n ?_)); all_goals (repeat (clear hK K)))
    all_goals (refine ⟨i + 1, mv 0 2, c2, by omega, ?_⟩; (try dsimp only); rw [et, List.map_append, List.map_append, List.length_append, ← hw1]; exact ⟨by (repeat (refine ⟨by first | exact lk_i rfl rfl | exact lk_d rfl rfl | exact lk_s rfl rfl rfl rfl, ?_⟩)); exact trivial, by (repeat (refine ⟨by first | exact ⟨rfl, rfl, rfl⟩, ?_⟩)); exact trivial, by rfl, by exact pin_0⟩)
  · have b2 : decide ((i : Int) < ((xs.map inL).length : Int)) = false := by simpa using c2
    have e2 : xs.take i = xs := List.take_of_length_le (by omega)
    rw [e2] at hml ⊢
    have e3 : (xs.map tx).map (·.data.toList) = xs.map Lib.itoa := by
      rw [List.map_map]
      exact List.map_congr_left fun x _ => by simp [tx, bsA]
    have hJ := Join_ro (xs.map tx) ⟨#[44]⟩ (by simp; omega) (by
      rw [e3]
      have := jnT_len xs hs
      unfold jnT at this
      exact Nat.le_trans this (by omega))
    rw [e3] at hJ
    ((repeat' (first
    | (show SQ _ _ _ _ _ _ _ _; first | apply sq_nil | (apply q_move; exact rfl; exact rfl) | (apply q_assign; exact rfl; exact rfl) | (apply q_lss; exact rfl; exact rfl; exact rfl))
    | (show SQ _ _ _ _ _ _ _ _; (first | (apply q_callU; exact rfl; exact rfl; exact rfl; rotate_left; exact hJ _; rotate_right; focus ((repeat' (first | exact FzL.nil | exact (by assumption : FzC _) _ | refine FzL.cons ?_ ?_ | exact Fz.of rfl | exact Fz.nil | exact Fz.emp | (apply Fz.fnC; assumption) | (apply Fz.sl2; exact rfl; exact (by first | omega | (simp; done) | (simp; omega)); first | exact rfl | exact dt_full (by first | omega | (simp; done) | (simp; omega)) | assumption) | apply Fz.agg | (apply Fz.ptrL; exact rfl; first | exact rfl | assumption) | apply Fz.fnL)); done))); (try simp only [put, rowsOf, plR, List.all_cons, selE, ovr, setH, del, cellsA, splice, isV, List.nil_append, List.cons_append, List.map_cons, List.map_nil, List.length_cons, List.length_nil, List.set_cons_zero, List.set_cons_succ, List.take_succ_cons, List.take_zero, List.take_nil, List.drop_succ_cons, List.drop_zero, List.drop_nil, List.append_nil, List.all_cons, List.all_nil, Bool.and_true, Bool.true_and, Bool.and_false, Bool.false_and, Nat.reduceAdd, Nat.zero_add, Nat.add_zero, Nat.reduceEqDiff, if_true, if_false, reduceIte]))
    | (show AW _ _ _ _ _ _ _ _; first | refine aw_region ?_ | (refine aw_seqk ?_; intro K hK) | (apply aw_cond_f; exact rfl; exact (by assumption)) | refine aw_ret ?_ | refine aw_exit ?_)
    | refine thn_n ?_
    | (refine hK _ _ _ ?_; clear hK K)
    | refine thn_e ?_
    | refine inb_same ?_
    | (clear hK K; refine hK _ _ _ ?_; clear hK K))); all_goals (repeat (clear hK K)))
    all_goals exact fin_r (fin_s rfl rfl)
theorem fill_step {cs : List AV} {i : Nat} {x : Int} {rest : List (Nat × AV)} (hi : i < cs.length) : fillA (fun i => some (i * 1, 1)) cs ((i, .v (.int .i64 x)) :: rest) = fillA (fun i => some (i * 1, 1)) (cs.set i (.v (.int .i64 x))) rest := by
  rw [fillA]
  have e : (Nat.beq (cellsA (.v (.int .i64 x))).length 1 && Nat.ble (i * 1 + 1) cs.length) = true := by
    simp only [cellsA, List.length_cons, List.length_nil, Nat.mul_one, Bool.and_eq_true]
    exact ⟨rfl, Nat.ble_eq_true_of_le (by omega)⟩
  dsimp only
  rw [e]
  dsimp only
  congr 1
  rw [List.set_eq_take_append_cons_drop, if_pos hi, Nat.mul_one]
  simp [splice, cellsA]
theorem fill9 (x0 x1 x2 x3 x4 x5 x6 x7 x8 : Int) : fillA (fun i => some (i * 1, 1)) (zeros 1 [.int .i64 0] 9) [(0, .v (.int .i64 x0)), (1, .v (.int .i64 x1)), (2, .v (.int .i64 x2)), (3, .v (.int .i64 x3)), (4, .v (.int .i64 x4)), (5, .v (.int .i64 x5)), (6, .v (.int .i64 x6)), (7, .v (.int .i64 x7)), (8, .v (.int .i64 x8))] = some [.v (.int .i64 x0), .v (.int .i64 x1), .v (.int .i64 x2), .v (.int .i64 x3), .v (.int .i64 x4), .v (.int .i64 x5), .v (.int .i64 x6), .v (.int .i64 x7), .v (.int .i64 x8)] := by
  have z : zeros 1 [.int .i64 0] 9 = List.replicate 9 (.v (.int .i64 0)) := rfl
  rw [z]
  simp only [List.replicate]
  iterate 9 (rw [fill_step (by simp)]; simp only [List.set_cons_zero, List.set_cons_succ])
  rfl
section
variable {P : Program} {N n : Nat} {all : Array Oper} {l : List Oper} {G : Tp → Hp → Nat → Prop} {T : Tp} {H : Hp} {bs ks : List Nat} {i : Nat} {eff : List (Nat × List (Nat × Option Blk))} {d : Nat} {ty : TypeId} {pos : String} {after : Array Edge}
theorem e_build9 {t e : TypeId} {ti : TI} {eb : Nat} {parts : Array (Nat × Operand)} {x0 x1 x2 x3 x4 x5 x6 x7 x8 : Int} (hd : Nat.blt d N = true) (hty : tiOf P t = some ti) (hk0 : ti.k = .slice e 1 eb [.int .i64 0]) (hm : evalP T parts.toList = some [(0, .v (.int .i64 x0)), (1, .v (.int .i64 x1)), (2, .v (.int .i64 x2)), (3, .v (.int .i64 x3)), (4, .v (.int .i64 x4)), (5, .v (.int .i64 x5)), (6, .v (.int .i64 x6)), (7, .v (.int .i64 x7)), (8, .v (.int .i64 x8))]) (hk : ks.getD i 0 = 1)
    (h : DE P N all bs ks H G (i + 1) ((i, [(n, some ⟨e, 1, true, [[.v (.int .i64 x0)], [.v (.int .i64 x1)], [.v (.int .i64 x2)], [.v (.int .i64 x3)], [.v (.int .i64 x4)], [.v (.int .i64 x5)], [.v (.int .i64 x6)], [.v (.int .i64 x7)], [.v (.int .i64 x8)]]⟩)]) :: eff) l ((d, .sl n 0 9) :: T) (n + 1)) : DE P N all bs ks H G i eff (⟨some d, .buildSlice t 9 parts, ty, pos, after, none⟩ :: l) T n :=
  e_buildn hd hty hk0 rfl rfl rfl hm (fill9 _ _ _ _ _ _ _ _ _) rfl hk h
end
def licN (l : Lic) : List Int := [l.lo, l.hi, l.x, l.y, l.e, l.n, l.fr, l.un, l.po]
def sp1 : ByteArray := ⟨#[32]⟩
def licT (l : Lic) : ByteArray := l.id ++ sp1 ++ l.ho ++ sp1 ++ bsA (jnT (licN l))
theorem lic_sm {l : Lic} (h : licB l = true) : smL (licN l) ∧ l.id.size ≤ 10 ∧ l.ho.size ≤ 10 := by
  simp only [licB, Bool.and_eq_true, areaB, inB, decide_eq_true_eq, Nm.nameB] at h
  refine ⟨fun x hx => ?_, ?_, ?_⟩
  · simp only [licN, List.mem_cons, List.mem_nil_iff, or_false] at hx
    rcases hx with rfl | rfl | rfl | rfl | rfl | rfl | rfl | rfl | rfl <;> omega
  · omega
  · omega
set_option maxHeartbeats 4000000 in
theorem LicenceText_ok_ro (l : Lic) (hs : l.sm) (hb : licB l = true) (k : Nat) : RO Tryd.prog 7 [.agg (licL l)] k (.v (.string (licT l))) [] k := by
  have hV := ValidLicence_ro l hs
  rw [hb] at hV
  have b1 : (!true) = false := rfl
  obtain ⟨hsm, hi, hh⟩ := lic_sm hb
  have hT : ∀ k, RO Tryd.prog 12 [.dsl 1 [[.v (.int .i64 l.lo)], [.v (.int .i64 l.hi)], [.v (.int .i64 l.x)], [.v (.int .i64 l.y)], [.v (.int .i64 l.e)], [.v (.int .i64 l.n)], [.v (.int .i64 l.fr)], [.v (.int .i64 l.un)], [.v (.int .i64 l.po)]]] k (.v (.string (bsA (jnT (licN l))))) [] k := ListText_ro (licN l) (by simp [licN]) (by simp [licN]) hsm
  have hJ := jnT_len _ hsm
  have hJl : (licN l).length = 9 := rfl
  have hJs : (bsA (jnT (licN l))).size ≤ 189 := by rw [bsA_size]; omega
  clear hJ hJl
  unfold licT
  generalize bsA (jnT (licN l)) = J at *
  clear hsm
  have z1 : (⟨#[32]⟩ : ByteArray).size = 1 := rfl
  have s1 : (l.id ++ (⟨#[32]⟩ : ByteArray)).size = l.id.size + 1 := by rw [ByteArray.size_append]; rfl
  have s2 : (l.id ++ (⟨#[32]⟩ : ByteArray) ++ l.ho).size = l.id.size + 1 + l.ho.size := by rw [ByteArray.size_append, s1]
  have s3 : (l.id ++ (⟨#[32]⟩ : ByteArray) ++ l.ho ++ (⟨#[32]⟩ : ByteArray)).size = l.id.size + 1 + l.ho.size + 1 := by rw [ByteArray.size_append, s2]; rfl
  unfold licL at hV ⊢
  refine RO.ofv' Tryd.func7 Tryd.ntmps7 rfl (goFn_of Tryd.func7 rfl (by kernel_rfl)) rfl rfl ?_
  ((repeat' (first
    | (show SQ _ _ _ _ _ _ _ _; first | apply sq_nil | (apply q_assign; exact rfl; exact rfl) | (apply q_fieldAddr; exact rfl; exact rfl; exact (ty rfl); exact rfl; exact rfl; exact rfl; exact rfl) | (apply q_not; exact rfl; exact rfl))
    | (show SQ _ _ _ _ _ _ _ _; (first | (apply q_ldap; exact rfl; exact rfl; exact (ty rfl); exact rfl; exact rfl; exact (by first | rfl | assumption | ((try simp only [Nat.zero_add]); refine List.getElem?_set_self ?_; (try simp only [List.length_set]); assumption)); exact rfl) | (apply q_box; exact rfl; exact rfl; exact rfl) | (apply q_alloc; exact rfl; exact (ty rfl); exact rfl; exact rfl) | (apply q_store; exact rfl; exact rfl; exact (ty rfl); exact rfl; exact (by first | rfl | assumption | ((try simp only [Nat.zero_add]); refine List.getElem?_set_self ?_; (try simp only [List.length_set]); assumption)); exact rfl; exact rfl; exact rfl) | (apply q_callU; exact rfl; exact rfl; exact rfl; exact FzL.of rfl; exact hV _)); (try simp only [put, rowsOf, plR, List.all_cons, selE, ovr, setH, del, cellsA, splice, isV, List.nil_append, List.cons_append, List.map_cons, List.map_nil, List.length_cons, List.length_nil, List.set_cons_zero, List.set_cons_succ, List.take_succ_cons, List.take_zero, List.take_nil, List.drop_succ_cons, List.drop_zero, List.drop_nil, List.append_nil, List.all_cons, List.all_nil, Bool.and_true, Bool.true_and, Bool.and_false, Bool.false_and, Nat.reduceAdd, Nat.zero_add, Nat.add_zero, Nat.reduceEqDiff, if_true, if_false, reduceIte]))
    | (show DE _ _ _ _ _ _ _ _ _ _ _ _; first | (apply e_assign; exact rfl; exact rfl; exact rfl) | (apply e_fieldAddr; exact rfl; exact rfl; exact (ty rfl); exact rfl; exact rfl; exact rfl; exact rfl; exact rfl) | (apply e_cat; exact rfl; exact rfl; exact rfl; exact (by first | omega | (simp; done) | (simp; omega)); exact rfl) | (apply e_ld1p; exact rfl; exact rfl; exact (ty rfl); exact rfl; exact rfl; exact (by first | rfl | assumption | ((try simp only [Nat.zero_add]); refine List.getElem?_set_self ?_; (try simp only [List.length_set]); assumption)); exact rfl; exact rfl))
    | (show DE _ _ _ _ _ _ _ _ _ _ _ _; (first | (apply dr_nil; exact trivial) | (apply e_callU; exact rfl; exact rfl; exact rfl; exact FzL.of rfl; exact hT _; exact rfl)); (try simp only [put, rowsOf, plR, List.all_cons, selE, ovr, setH, del, cellsA, splice, isV, List.nil_append, List.cons_append, List.map_cons, List.map_nil, List.length_cons, List.length_nil, List.set_cons_zero, List.set_cons_succ, List.take_succ_cons, List.take_zero, List.take_nil, List.drop_succ_cons, List.drop_zero, List.drop_nil, List.append_nil, List.all_cons, List.all_nil, Bool.and_true, Bool.true_and, Bool.and_false, Bool.false_and, Nat.reduceAdd, Nat.zero_add, Nat.add_zero, Nat.reduceEqDiff, if_true, if_false, reduceIte]))
    | (show AW _ _ _ _ _ _ _ _; first | refine aw_region ?_ | (refine aw_seqk ?_; intro K hK) | (apply aw_cond_f; exact rfl; exact rfl) | refine aw_ret ?_ | refine aw_skip ?_ | refine aw_drawE (id := 4) [0, 1, 3, 0, 8, 31, 63, 0, 128, 0, 512, 0, 2048, 0, 8192, 0, 32768, 0, 131072, 0, 524288, 0, 2097152, 0, 8388608, 33554304, 67108736, 134217727, 268435455] [0, 1, 0, 0, 1, 0, 0, 0, 1, 0, 1, 0, 1, 0, 1, 0, 1, 0, 1, 0, 1, 0, 1, 0, 1, 1, 1, 0, 0] mixed (by kernel_rfl) ?_)
    | refine thn_n ?_
    | (refine hK _ _ _ ?_; clear hK K)
    | (show DE _ _ _ _ _ _ _ _ _ _ _ _; apply e_build9; exact rfl; exact (ty rfl); exact rfl; exact rfl; exact rfl))); all_goals (repeat (clear hK K)))
  all_goals exact fin_r (fin_s rfl rfl)
set_option maxHeartbeats 4000000 in
theorem l26Text_ok_ro (l : Lic) (hs : l.sm) (hb : licB l = true) (k : Nat) : RO Tryd.prog 9 [.dptr (licL l)] k (.v (.string (licT l))) [] k := by
  have hV := ValidLicence_ro l hs
  rw [hb] at hV
  have b1 : (!true) = false := rfl
  obtain ⟨hsm, hi, hh⟩ := lic_sm hb
  have hT : ∀ k, RO Tryd.prog 18 [.dsl 1 [[.v (.int .i64 l.lo)], [.v (.int .i64 l.hi)], [.v (.int .i64 l.x)], [.v (.int .i64 l.y)], [.v (.int .i64 l.e)], [.v (.int .i64 l.n)], [.v (.int .i64 l.fr)], [.v (.int .i64 l.un)], [.v (.int .i64 l.po)]]] k (.v (.string (bsA (jnT (licN l))))) [] k := l01List_ro (licN l) (by simp [licN]) (by simp [licN]) hsm
  have hJ := jnT_len _ hsm
  have hJl : (licN l).length = 9 := rfl
  have hJs : (bsA (jnT (licN l))).size ≤ 189 := by rw [bsA_size]; omega
  clear hJ hJl
  unfold licT
  generalize bsA (jnT (licN l)) = J at *
  clear hsm
  have z1 : (⟨#[32]⟩ : ByteArray).size = 1 := rfl
  have s1 : (l.id ++ (⟨#[32]⟩ : ByteArray)).size = l.id.size + 1 := by rw [ByteArray.size_append]; rfl
  have s2 : (l.id ++ (⟨#[32]⟩ : ByteArray) ++ l.ho).size = l.id.size + 1 + l.ho.size := by rw [ByteArray.size_append, s1]
  have s3 : (l.id ++ (⟨#[32]⟩ : ByteArray) ++ l.ho ++ (⟨#[32]⟩ : ByteArray)).size = l.id.size + 1 + l.ho.size + 1 := by rw [ByteArray.size_append, s2]; rfl
  unfold licL at hV ⊢
  refine RO.ofv' Tryd.func9 Tryd.ntmps9 rfl (goFn_of Tryd.func9 rfl (by kernel_rfl)) rfl rfl ?_
  ((repeat' (first
    | (show SQ _ _ _ _ _ _ _ _; first | apply sq_nil | (apply q_move; exact rfl; exact rfl) | (apply q_assign; exact rfl; exact rfl) | (apply q_fieldAddr; exact rfl; exact rfl; exact (ty rfl); exact rfl; exact rfl; exact rfl; exact rfl) | (apply q_nilc; exact rfl; exact rfl; exact rfl))
    | (show SQ _ _ _ _ _ _ _ _; (first | (apply q_ldad; exact rfl; exact rfl; exact (ty rfl); exact rfl; exact rfl) | (apply q_alloc; exact rfl; exact (ty rfl); exact rfl; exact rfl) | (apply q_store; exact rfl; exact rfl; exact (ty rfl); exact rfl; exact (by first | rfl | assumption | ((try simp only [Nat.zero_add]); refine List.getElem?_set_self ?_; (try simp only [List.length_set]); assumption)); exact rfl; exact rfl; exact rfl)); (try simp only [put, rowsOf, plR, List.all_cons, selE, ovr, setH, del, cellsA, splice, isV, List.nil_append, List.cons_append, List.map_cons, List.map_nil, List.length_cons, List.length_nil, List.set_cons_zero, List.set_cons_succ, List.take_succ_cons, List.take_zero, List.take_nil, List.drop_succ_cons, List.drop_zero, List.drop_nil, List.append_nil, List.all_cons, List.all_nil, Bool.and_true, Bool.true_and, Bool.and_false, Bool.false_and, Nat.reduceAdd, Nat.zero_add, Nat.add_zero, Nat.reduceEqDiff, if_true, if_false, reduceIte]))
    | (show DE _ _ _ _ _ _ _ _ _ _ _ _; first | (apply e_move; exact rfl; exact rfl; exact rfl) | (apply e_assign; exact rfl; exact rfl; exact rfl) | (apply e_fieldAddr; exact rfl; exact rfl; exact (ty rfl); exact rfl; exact rfl; exact rfl; exact rfl; exact rfl) | (apply e_nilc; exact rfl; exact rfl; exact rfl; exact rfl) | (apply e_cat; exact rfl; exact rfl; exact rfl; exact (by first | omega | (simp; done) | (simp; omega)); exact rfl) | (apply e_ld1d; exact rfl; exact rfl; exact (ty rfl); exact rfl; exact rfl; exact rfl) | (apply e_ld1p; exact rfl; exact rfl; exact (ty rfl); exact rfl; exact rfl; exact (by first | rfl | assumption | ((try simp only [Nat.zero_add]); refine List.getElem?_set_self ?_; (try simp only [List.length_set]); assumption)); exact rfl; exact rfl))
    | (show DE _ _ _ _ _ _ _ _ _ _ _ _; (first | (apply dr_nil; exact trivial) | (apply e_callU; exact rfl; exact rfl; exact rfl; exact FzL.of rfl; exact hT _; exact rfl)); (try simp only [put, rowsOf, plR, List.all_cons, selE, ovr, setH, del, cellsA, splice, isV, List.nil_append, List.cons_append, List.map_cons, List.map_nil, List.length_cons, List.length_nil, List.set_cons_zero, List.set_cons_succ, List.take_succ_cons, List.take_zero, List.take_nil, List.drop_succ_cons, List.drop_zero, List.drop_nil, List.append_nil, List.all_cons, List.all_nil, Bool.and_true, Bool.true_and, Bool.and_false, Bool.false_and, Nat.reduceAdd, Nat.zero_add, Nat.add_zero, Nat.reduceEqDiff, if_true, if_false, reduceIte]))
    | (show AW _ _ _ _ _ _ _ _; first | refine aw_region ?_ | (refine aw_seqk ?_; intro K hK) | refine aw_ret ?_ | refine aw_drawE (id := 2) [0, 1, 3, 7, 15, 0, 32, 96, 224, 511, 1023, 0, 2048, 6144, 14336, 0, 32768, 98304, 229376, 0, 524288, 0, 2097152, 0, 8388608, 0, 33554432, 0, 134217728, 402653184, 939524096, 0, 2147483648, 6442450944, 15032385536, 0, 34359738368, 103079215104, 240518168576, 549755811840, 1099511625728, 2199023255551, 4398046511103] [0, 0, 0, 1, 0, 0, 0, 0, 1, 0, 0, 0, 0, 0, 1, 0, 0, 0, 1, 0, 1, 0, 1, 0, 1, 0, 1, 0, 0, 0, 1, 0, 0, 0, 1, 0, 0, 0, 1, 1, 1, 0, 0] mixed (by kernel_rfl) ?_)
    | refine thn_n ?_
    | (refine hK _ _ _ ?_; clear hK K)
    | (show DE _ _ _ _ _ _ _ _ _ _ _ _; apply e_build9; exact rfl; exact (ty rfl); exact rfl; exact rfl; exact rfl))); all_goals (repeat (clear hK K)))
  all_goals exact fin_r (fin_s rfl rfl)
end Go.Proofs.YtkbhceijmbcenaaDoor.Dc

namespace Go.Proofs.YtkbhceijmbcenaaDoor.Dc
open Go Go.RowKit Go.Proofs.YtkbhceijmbcenaaDoor.Aw Go.Proofs.YtkbhceijmbcenaaDoor.Ar Go.Proofs.YtkbhceijmbcenaaDoor.Li Go.Proofs.YtkbhceijmbcenaaDoor.Il
set_option linter.unusedSimpArgs false
set_option linter.unusedVariables false
attribute [local irreducible] AW SQ Step RO RC DE Thn InB
def ltxt (l : Lic) : ByteArray := if licB l then licT l else ⟨#[]⟩
set_option maxHeartbeats 4000000 in
theorem LicenceText_all_ro (l : Lic) (hs : l.sm) (k : Nat) : RO Tryd.prog 7 [.agg (licL l)] k (.v (.string (ltxt l))) [] k := by
  have hV := ValidLicence_ro l hs
  cases hb : licB l with
  | false =>
    rw [hb] at hV
    have b1 : (!false) = true := rfl
    unfold ltxt
    rw [hb]
    unfold licL at hV ⊢
    refine RO.ofv' Tryd.func7 Tryd.ntmps7 rfl (goFn_of Tryd.func7 rfl (by kernel_rfl)) rfl rfl ?_
    ((repeat' (first
    | (show SQ _ _ _ _ _ _ _ _; first | apply sq_nil | (apply q_assign; exact rfl; exact rfl) | (apply q_not; exact rfl; exact rfl))
    | (show SQ _ _ _ _ _ _ _ _; (first | (apply q_ldap; exact rfl; exact rfl; exact (ty rfl); exact rfl; exact rfl; exact (by first | rfl | assumption | ((try simp only [Nat.zero_add]); refine List.getElem?_set_self ?_; (try simp only [List.length_set]); assumption)); exact rfl) | (apply q_box; exact rfl; exact rfl; exact rfl) | (apply q_callU; exact rfl; exact rfl; exact rfl; exact FzL.of rfl; exact hV _)); (try simp only [put, rowsOf, plR, List.all_cons, selE, ovr, setH, del, cellsA, splice, isV, List.nil_append, List.cons_append, List.map_cons, List.map_nil, List.length_cons, List.length_nil, List.set_cons_zero, List.set_cons_succ, List.take_succ_cons, List.take_zero, List.take_nil, List.drop_succ_cons, List.drop_zero, List.drop_nil, List.append_nil, List.all_cons, List.all_nil, Bool.and_true, Bool.true_and, Bool.and_false, Bool.false_and, Nat.reduceAdd, Nat.zero_add, Nat.add_zero, Nat.reduceEqDiff, if_true, if_false, reduceIte]))
    | (show AW _ _ _ _ _ _ _ _; first | refine aw_region ?_ | (refine aw_seqk ?_; intro K hK) | (apply aw_cond_t; exact rfl; exact rfl) | refine aw_ret ?_)
    | refine thn_n ?_
    | (refine hK _ _ _ ?_; clear hK K)
    | refine thn_r ?_)); all_goals (repeat (clear hK K)))
    all_goals exact fin_r (fin_s rfl rfl)
  | true =>
    have hT := LicenceText_ok_ro l hs hb
    rw [hb] at hV
    have b1 : (!true) = false := rfl
    unfold ltxt
    rw [hb]
    first
      | exact hT k
      | (generalize licT l = t at *
         unfold licL at hV hT ⊢
         refine RO.ofv' Tryd.func7 Tryd.ntmps7 rfl (goFn_of Tryd.func7 rfl (by kernel_rfl)) rfl rfl ?_
         (all_goals (repeat (clear hK K)))
         all_goals exact fin_r (fin_s rfl rfl))
set_option maxHeartbeats 4000000 in
theorem specLicenceText_all_ro (l : Lic) (hs : l.sm) (k : Nat) : RO Tryd.prog 5 [.agg (licL l)] k (.v (.string (ltxt l))) [] k := by
  have hV := l26Ok_ro l hs
  cases hb : licB l with
  | false =>
    rw [hb] at hV
    have b1 : (!false) = true := rfl
    unfold ltxt
    rw [hb]
    unfold licL at hV ⊢
    refine RO.ofv' Tryd.func5 Tryd.ntmps5 rfl (goFn_of Tryd.func5 rfl (by kernel_rfl)) rfl rfl ?_
    ((repeat' (first
    | (show SQ _ _ _ _ _ _ _ _; first | apply sq_nil | (apply q_assign; exact rfl; exact rfl) | (apply q_not; exact rfl; exact rfl))
    | (show SQ _ _ _ _ _ _ _ _; (first | (apply q_box; exact rfl; exact rfl; exact rfl) | (apply q_callU; exact rfl; exact rfl; exact rfl; exact FzL.of rfl; exact hV _)); (try simp only [put, rowsOf, plR, List.all_cons, selE, ovr, setH, del, cellsA, splice, isV, List.nil_append, List.cons_append, List.map_cons, List.map_nil, List.length_cons, List.length_nil, List.set_cons_zero, List.set_cons_succ, List.take_succ_cons, List.take_zero, List.take_nil, List.drop_succ_cons, List.drop_zero, List.drop_nil, List.append_nil, List.all_cons, List.all_nil, Bool.and_true, Bool.true_and, Bool.and_false, Bool.false_and, Nat.reduceAdd, Nat.zero_add, Nat.add_zero, Nat.reduceEqDiff, if_true, if_false, reduceIte]))
    | (show AW _ _ _ _ _ _ _ _; first | refine aw_region ?_ | (refine aw_seqk ?_; intro K hK) | (apply aw_cond_t; exact rfl; exact rfl) | refine aw_ret ?_)
    | refine thn_n ?_
    | (refine hK _ _ _ ?_; clear hK K)
    | refine thn_r ?_)); all_goals (repeat (clear hK K)))
    all_goals exact fin_r (fin_s rfl rfl)
  | true =>
    have hT := l26Text_ok_ro l hs hb
    rw [hb] at hV
    have b1 : (!true) = false := rfl
    unfold ltxt
    rw [hb]
    first
      | exact hT k
      | (generalize licT l = t at *
         unfold licL at hV hT ⊢
         refine RO.ofv' Tryd.func5 Tryd.ntmps5 rfl (goFn_of Tryd.func5 rfl (by kernel_rfl)) rfl rfl ?_
         ((repeat' (first
    | (show SQ _ _ _ _ _ _ _ _; first | apply sq_nil | (apply q_assign; exact rfl; exact rfl) | (apply q_not; exact rfl; exact rfl))
    | (show SQ _ _ _ _ _ _ _ _; (first | (apply q_box; exact rfl; exact rfl; exact rfl) | (apply q_callU; exact rfl; exact rfl; exact rfl; exact FzL.of rfl; exact hV _) | (apply q_callU; exact rfl; exact rfl; exact rfl; exact FzL.of rfl; exact hT _)); (try simp only [put, rowsOf, plR, List.all_cons, selE, ovr, setH, del, cellsA, splice, isV, List.nil_append, List.cons_append, List.map_cons, List.map_nil, List.length_cons, List.length_nil, List.set_cons_zero, List.set_cons_succ, List.take_succ_cons, List.take_zero, List.take_nil, List.drop_succ_cons, List.drop_zero, List.drop_nil, List.append_nil, List.all_cons, List.all_nil, Bool.and_true, Bool.true_and, Bool.and_false, Bool.false_and, Nat.reduceAdd, Nat.zero_add, Nat.add_zero, Nat.reduceEqDiff, if_true, if_false, reduceIte]))
    | (show AW _ _ _ _ _ _ _ _; first | refine aw_region ?_ | (refine aw_seqk ?_; intro K hK) | (apply aw_cond_f; exact rfl; exact rfl) | refine aw_ret ?_ | refine aw_skip ?_)
    | refine thn_n ?_
    | (refine hK _ _ _ ?_; clear hK K))); all_goals (repeat (clear hK K)))
         all_goals exact fin_r (fin_s rfl rfl))
set_option maxHeartbeats 4000000 in
theorem lawLicenceText_ro (l : Lic) (hs : l.sm) (k : Nat) : RO Tryd.prog 3 [.agg (licL l)] k (.v (.bool true)) [] k := by
  have h1 := szLicence_ro l 1048576 hs (by omega) (by omega)
  have h2 := toLicence_ro l
  have h3 := LicenceText_all_ro l hs
  have h4 := specLicenceText_all_ro l hs
  have b2 : (!eqS (ltxt l) (ltxt l)) = false := by simp [eqS]
  generalize ltxt l = t at *
  unfold licL at h1 h2 h3 h4 ⊢
  by_cases c1 : szN l 1048576 < 0
  · have b1 : decide (szN l 1048576 < 0) = true := by simpa using c1
    refine RO.ofv' Tryd.func3 Tryd.ntmps3 rfl (goFn_of Tryd.func3 rfl (by kernel_rfl)) rfl rfl ?_
    ((repeat' (first
    | (show SQ _ _ _ _ _ _ _ _; first | apply sq_nil | (apply q_move; exact rfl; exact rfl) | (apply q_assign; exact rfl; exact rfl) | (apply q_lss; exact rfl; exact rfl; exact rfl))
    | (show SQ _ _ _ _ _ _ _ _; (first | (apply q_ldap; exact rfl; exact rfl; exact (ty rfl); exact rfl; exact rfl; exact (by first | rfl | assumption | ((try simp only [Nat.zero_add]); refine List.getElem?_set_self ?_; (try simp only [List.length_set]); assumption)); exact rfl) | (apply q_box; exact rfl; exact rfl; exact rfl) | (apply q_callU; exact rfl; exact rfl; exact rfl; exact FzL.of rfl; exact h1 _)); (try simp only [put, rowsOf, plR, List.all_cons, selE, ovr, setH, del, cellsA, splice, isV, List.nil_append, List.cons_append, List.map_cons, List.map_nil, List.length_cons, List.length_nil, List.set_cons_zero, List.set_cons_succ, List.take_succ_cons, List.take_zero, List.take_nil, List.drop_succ_cons, List.drop_zero, List.drop_nil, List.append_nil, List.all_cons, List.all_nil, Bool.and_true, Bool.true_and, Bool.and_false, Bool.false_and, Nat.reduceAdd, Nat.zero_add, Nat.add_zero, Nat.reduceEqDiff, if_true, if_false, reduceIte]))
    | (show AW _ _ _ _ _ _ _ _; first | refine aw_region ?_ | (refine aw_seqk ?_; intro K hK) | (apply aw_cond_t; exact rfl; exact (by assumption)) | refine aw_ret ?_)
    | refine thn_n ?_
    | (refine hK _ _ _ ?_; clear hK K)
    | refine thn_r ?_)); all_goals (repeat (clear hK K)))
    all_goals exact fin_r (fin_b rfl rfl)
  · have b1 : decide (szN l 1048576 < 0) = false := by simpa using c1
    refine RO.ofv' Tryd.func3 Tryd.ntmps3 rfl (goFn_of Tryd.func3 rfl (by kernel_rfl)) rfl rfl ?_
    ((repeat' (first
    | (show SQ _ _ _ _ _ _ _ _; first | apply sq_nil | (apply q_move; exact rfl; exact rfl) | (apply q_assign; exact rfl; exact rfl) | (apply q_lss; exact rfl; exact rfl; exact rfl) | (apply q_sneq; exact rfl; exact rfl; exact rfl))
    | (show SQ _ _ _ _ _ _ _ _; (first | (apply q_ldap; exact rfl; exact rfl; exact (ty rfl); exact rfl; exact rfl; exact (by first | rfl | assumption | ((try simp only [Nat.zero_add]); refine List.getElem?_set_self ?_; (try simp only [List.length_set]); assumption)); exact rfl) | (apply q_box; exact rfl; exact rfl; exact rfl) | (apply q_callU; exact rfl; exact rfl; exact rfl; exact FzL.of rfl; exact h1 _) | (apply q_callU; exact rfl; exact rfl; exact rfl; exact FzL.of rfl; exact h2 _) | (apply q_callU; exact rfl; exact rfl; exact rfl; exact FzL.of rfl; exact h3 _) | (apply q_callU; exact rfl; exact rfl; exact rfl; exact FzL.of rfl; exact h4 _)); (try simp only [put, rowsOf, plR, List.all_cons, selE, ovr, setH, del, cellsA, splice, isV, List.nil_append, List.cons_append, List.map_cons, List.map_nil, List.length_cons, List.length_nil, List.set_cons_zero, List.set_cons_succ, List.take_succ_cons, List.take_zero, List.take_nil, List.drop_succ_cons, List.drop_zero, List.drop_nil, List.append_nil, List.all_cons, List.all_nil, Bool.and_true, Bool.true_and, Bool.and_false, Bool.false_and, Nat.reduceAdd, Nat.zero_add, Nat.add_zero, Nat.reduceEqDiff, if_true, if_false, reduceIte]))
    | (show AW _ _ _ _ _ _ _ _; first | refine aw_region ?_ | (refine aw_seqk ?_; intro K hK) | (apply aw_cond_f; exact rfl; exact (by assumption)) | refine aw_ret ?_ | refine aw_skip ?_)
    | refine thn_n ?_
    | (refine hK _ _ _ ?_; clear hK K))); all_goals (repeat (clear hK K)))
    all_goals exact fin_r (fin_b rfl rfl)
theorem closeLicenceText (v : Value) (w : World) (hg : Gl w) (h : Fr.IsLic w v) : Calls Tryd.prog 3 #[v] w fun r w' => r = .returned (.bool true) ∧ Below w.heap.size w w' := by
  obtain ⟨l, rfl, hs⟩ := h
  exact RO.calls (k := 0) (lawLicenceText_ro l hs 0) (K := NoK) (fun _ h => h.elim) (VRs.cons (VR.aggv (Fr.licC l)) VRs.nil) hg
end Go.Proofs.YtkbhceijmbcenaaDoor.Dc
