/-
  Trees: the law.
-/
import Derived.Test.YtgjgklkboldkfaaTrB
namespace Go.Proofs.Ytgjgklkboldkfaa.Bk
open Go Go.RowKit Go.Proofs.Ytgjgklkboldkfaa.Aw
set_option linter.unusedSimpArgs false
set_option linter.unusedVariables false
attribute [local irreducible] AW SQ Step RO RC DE Thn InB

theorem nodup_le : ∀ (l R : List Int), l.Nodup → (∀ x ∈ l, x ∈ R) → l.length ≤ R.length
  | [], _, _, _ => Nat.zero_le _
  | x :: l, R, hd, h => by
    have h2 := List.nodup_cons.1 hd
    have hx := h x List.mem_cons_self
    have ih := nodup_le l (R.erase x) h2.2 fun y hy => (List.mem_erase_of_ne (fun e : y = x => h2.1 (e ▸ hy))).2 (h y (List.mem_cons_of_mem _ hy))
    have := List.length_erase_of_mem hx
    have hp : 0 < R.length := List.length_pos_of_mem hx
    simp only [List.length_cons]
    omega
theorem same_iff {n : Int} {ls : List Ln} {ix : List Int} (hN : 1 ≤ n ∧ n ≤ 12) (hL : ∀ l ∈ ls, 0 ≤ l.a ∧ l.a < n ∧ 0 ≤ l.b ∧ l.b < n) (hix : ∀ x ∈ ix, 0 ≤ x ∧ x < ls.length) :
    sameP (trP n ls ix) = (((reachV n ls ix 0).length : Int) == n) := by
  obtain ⟨hG, hR⟩ := reachV_spec (frm := 0) hL hix (by omega)
  have hpl : (trP n ls ix).length = n.toNat := parts_len _ _ _ _
  have hle := hG.le (by omega)
  have hm : ∀ x, 0 ≤ x → x < n → ((trP n ls ix).getD x.toNat 0 = (trP n ls ix).getD 0 0 ↔ x ∈ reachV n ls ix 0) := fun x h0 h1 => by
    have hc := parts_conn (may := mayT ls.length ix ix.length) hL ls.length (Nat.le_refl _) x 0 h0 h1 (by omega) (by omega)
    have hs : ∀ l, l ∈ act ls (mayT ls.length ix ix.length) ls.length ↔ l ∈ ix.map (lnAt ls) := fun l => by
      simp only [act, List.mem_map, List.mem_filter, List.mem_range]
      constructor
      · rintro ⟨j, ⟨hj, hm⟩, rfl⟩
        obtain ⟨t, ht, rfl⟩ := (mayT_get hj ix.length (Nat.le_refl _)).1 hm
        rw [List.take_length] at ht
        exact ⟨t, ht, rfl⟩
      · rintro ⟨t, ht, rfl⟩
        have := hix t ht
        have hj : t.toNat < ls.length := by omega
        exact ⟨t.toNat, ⟨hj, (mayT_get hj ix.length (Nat.le_refl _)).2 ⟨t, by rw [List.take_length]; exact ht, rfl⟩⟩, rfl⟩
    have : Cn (act ls (mayT ls.length ix ix.length) ls.length) x 0 ↔ Cn (ix.map (lnAt ls)) 0 x :=
      ⟨fun h => (h.mono fun l hl => (hs l).1 hl).symm, fun h => (h.mono fun l hl => (hs l).2 hl).symm⟩
    rw [this, ← hR x] at hc
    exact hc
  rw [Bool.eq_iff_iff]
  simp only [sameP, List.all_eq_true, List.mem_range, beq_iff_eq]
  constructor
  · intro h
    have h1 := nodup_le (part0 n.toNat) (reachV n ls ix 0) (List.Pairwise.map _ (fun a b (hab : a ≠ b) => by omega) List.nodup_range) fun x hx => by
        obtain ⟨j, hj, rfl⟩ := List.mem_map.1 hx
        have hj := List.mem_range.1 hj
        refine (hm (j : Int) (by omega) (by omega)).1 ?_
        have := h j (by omega)
        simpa using this
    rw [part0_len] at h1
    omega
  · intro h j hj
    have h1 : ((j : Int)).toNat = j := by simp
    have := hm (j : Int) (by omega) (by omega)
    rw [h1] at this
    refine this.2 (Classical.byContradiction fun hc => ?_)
    have := pigeon n.toNat ((j : Int) :: reachV n ls ix 0) (List.nodup_cons.2 ⟨hc, hG.1⟩) fun x hx => by
      rcases List.mem_cons.1 hx with rfl | hx
      · omega
      · have := hG.2 x hx; omega
    simp only [List.length_cons] at this
    omega
theorem tree_eq {n : Int} {ls : List Ln} {ix : List Int} (hN : 1 ≤ n ∧ n ≤ 12) (hL : ∀ l ∈ ls, 0 ≤ l.a ∧ l.a < n ∧ 0 ≤ l.b ∧ l.b < n) : trS n ls ix = isT n ls ix := by
  unfold trS isT
  rw [risB_eq]
  cases h : inW ls ix with
  | false => simp only [inW] at h; rw [h]; simp
  | true =>
    have h2 := same_iff hN hL (inW_get h)
    simp only [inW] at h
    rw [h, h2]
    cases incB ix <;> cases ((ix.length : Int) == n - 1) <;> rfl
def itV (n : Int) (ls : List Ln) (ix : List Int) : Bool := bkB n ls && isT n ls ix
set_option maxHeartbeats 4000000 in
theorem specIsTree_ro (n : Int) (ls : List Ln) (ix : List Int) (hn : ls.length ≤ 1048576) (hr : ix.length ≤ 1048576) (k : Nat) : RO Try.prog 24 [.agg (bkL n ls), .dsl 1 (ix.map inL)] k (.v (.bool (itV n ls ix))) [] k := by
  have hok := l25Ok_ro n ls hn
  unfold itV
  cases c1 : bkB n ls with
  | false =>
    refine RO.ofv' Try.func24 Try.ntmps24 rfl (goFn_of Try.func24 rfl (by kernel_rfl)) rfl rfl ?_
    unfold bkL at hok ⊢
    ((repeat' (first
    | (show SQ _ _ _ _ _ _ _ _; first | apply sq_nil | (apply q_move; exact rfl; exact rfl) | (apply q_assign; exact rfl; exact rfl) | (apply q_pick_t; exact rfl; exact rfl; exact rfl; exact (by first | assumption | exact rfl)) | (apply q_pick_f; exact rfl; exact rfl; exact rfl; exact (by first | assumption | exact rfl)) | (apply q_g; exact rfl; exact rfl; exact rfl; exact (by assumption)) | (apply q_s; exact rfl; exact rfl; exact rfl; exact (by assumption); exact rfl) | (apply q_g; exact rfl; exact rfl; exact rfl; exact rfl) | (apply q_s; exact rfl; exact rfl; exact rfl; exact rfl; exact rfl) | (apply q_sU; exact rfl; exact rfl; exact rfl; exact rfl))
    | (show SQ _ _ _ _ _ _ _ _; (first | (apply q_box; exact rfl; exact rfl; exact rfl) | (apply q_callU; exact rfl; exact rfl; exact rfl; exact FzL.of rfl; exact hok _) | (apply q_callU; exact rfl; exact rfl; exact rfl; rotate_left; exact hok _; rotate_right; focus ((repeat' (first | exact FzL.nil | exact (by assumption : FzC _) _ | refine FzL.cons ?_ ?_ | exact Fz.of rfl | exact Fz.nil | exact Fz.emp | (apply Fz.fnC; assumption) | (apply Fz.sl2; exact rfl; exact (by first | omega | (simp <;> omega)); first | exact rfl | exact dt_full (by first | omega | (simp <;> omega)) | assumption) | apply Fz.agg | (apply Fz.ptrL; exact rfl; exact rfl) | apply Fz.fnL)); done))); (try simp only [put, rowsOf, plR, List.all_cons, selE, ovr, setH, del, cellsA, splice, isV, List.nil_append, List.cons_append, List.map_cons, List.map_nil, List.length_cons, List.length_nil, List.set_cons_zero, List.set_cons_succ, List.take_succ_cons, List.take_zero, List.take_nil, List.drop_succ_cons, List.drop_zero, List.drop_nil, List.append_nil, List.all_cons, List.all_nil, Bool.and_true, Bool.true_and, Bool.and_false, Bool.false_and, Nat.reduceAdd, Nat.zero_add, Nat.add_zero, Nat.reduceEqDiff, if_true, if_false, reduceIte]))
    | (show SQ _ _ _ _ _ _ _ _; apply q_gs; exact rfl; exact rfl; exact rfl; exact rfl; all_goals intro h)
    | (show AW _ _ _ _ _ _ _ _; first | refine aw_region ?_ | (refine aw_seqk ?_; intro K hK) | refine aw_block ?_ | (apply aw_cond_t; exact rfl; exact rfl) | (apply aw_cond_f; exact rfl; exact rfl) | (apply aw_cond_t; exact rfl; exact (by assumption)) | (apply aw_cond_f; exact rfl; exact (by assumption)) | refine aw_ret ?_ | refine aw_exit ?_ | refine aw_skip ?_ | (apply aw_ite; exact rfl; all_goals intro h))
    | refine thn_n ?_
    | (refine hK _ _ _ ?_; clear hK K)
    | refine thn_e ?_
    | refine thn_r ?_
    | refine inb_same ?_
    | refine inb_ne rfl ?_
    | refine inb_n ?_
    | refine inb_r ?_
    | (clear hK K; refine hK _ _ _ ?_; clear hK K)
    | (clear hK K; clear hK K; refine hK _ _ _ ?_; clear hK K)
    | (clear hK K; clear hK K; clear hK K; refine hK _ _ _ ?_; clear hK K))); all_goals (repeat (clear hK K)))
    all_goals refine fin_r (fin_b rfl ?_)
    all_goals simp_all
  | true =>
    obtain ⟨hN, hL⟩ := bkB_in c1
    have hT := l25Tree_ro n ls ix hN hn hr hL
    rw [tree_eq hN hL] at hT
    refine RO.ofv' Try.func24 Try.ntmps24 rfl (goFn_of Try.func24 rfl (by kernel_rfl)) rfl rfl ?_
    unfold bkL at hok hT ⊢
    ((repeat' (first
    | (show SQ _ _ _ _ _ _ _ _; first | apply sq_nil | (apply q_move; exact rfl; exact rfl) | (apply q_assign; exact rfl; exact rfl) | (apply q_pick_t; exact rfl; exact rfl; exact rfl; exact (by first | assumption | exact rfl)) | (apply q_pick_f; exact rfl; exact rfl; exact rfl; exact (by first | assumption | exact rfl)) | (apply q_g; exact rfl; exact rfl; exact rfl; exact (by assumption)) | (apply q_s; exact rfl; exact rfl; exact rfl; exact (by assumption); exact rfl) | (apply q_g; exact rfl; exact rfl; exact rfl; exact rfl) | (apply q_s; exact rfl; exact rfl; exact rfl; exact rfl; exact rfl) | (apply q_sU; exact rfl; exact rfl; exact rfl; exact rfl))
    | (show SQ _ _ _ _ _ _ _ _; (first | (apply q_box; exact rfl; exact rfl; exact rfl) | (apply q_callU; exact rfl; exact rfl; exact rfl; exact FzL.of rfl; exact hok _) | (apply q_callU; exact rfl; exact rfl; exact rfl; exact FzL.of rfl; exact hT _) | (apply q_callU; exact rfl; exact rfl; exact rfl; rotate_left; exact hok _; rotate_right; focus ((repeat' (first | exact FzL.nil | exact (by assumption : FzC _) _ | refine FzL.cons ?_ ?_ | exact Fz.of rfl | exact Fz.nil | exact Fz.emp | (apply Fz.fnC; assumption) | (apply Fz.sl2; exact rfl; exact (by first | omega | (simp <;> omega)); first | exact rfl | exact dt_full (by first | omega | (simp <;> omega)) | assumption) | apply Fz.agg | (apply Fz.ptrL; exact rfl; exact rfl) | apply Fz.fnL)); done)) | (apply q_callU; exact rfl; exact rfl; exact rfl; rotate_left; exact hT _; rotate_right; focus ((repeat' (first | exact FzL.nil | exact (by assumption : FzC _) _ | refine FzL.cons ?_ ?_ | exact Fz.of rfl | exact Fz.nil | exact Fz.emp | (apply Fz.fnC; assumption) | (apply Fz.sl2; exact rfl; exact (by first | omega | (simp <;> omega)); first | exact rfl | exact dt_full (by first | omega | (simp <;> omega)) | assumption) | apply Fz.agg | (apply Fz.ptrL; exact rfl; exact rfl) | apply Fz.fnL)); done))); (try simp only [put, rowsOf, plR, List.all_cons, selE, ovr, setH, del, cellsA, splice, isV, List.nil_append, List.cons_append, List.map_cons, List.map_nil, List.length_cons, List.length_nil, List.set_cons_zero, List.set_cons_succ, List.take_succ_cons, List.take_zero, List.take_nil, List.drop_succ_cons, List.drop_zero, List.drop_nil, List.append_nil, List.all_cons, List.all_nil, Bool.and_true, Bool.true_and, Bool.and_false, Bool.false_and, Nat.reduceAdd, Nat.zero_add, Nat.add_zero, Nat.reduceEqDiff, if_true, if_false, reduceIte]))
    | (show SQ _ _ _ _ _ _ _ _; apply q_gs; exact rfl; exact rfl; exact rfl; exact rfl; all_goals intro h)
    | (show AW _ _ _ _ _ _ _ _; first | refine aw_region ?_ | (refine aw_seqk ?_; intro K hK) | refine aw_block ?_ | (apply aw_cond_t; exact rfl; exact rfl) | (apply aw_cond_f; exact rfl; exact rfl) | (apply aw_cond_t; exact rfl; exact (by assumption)) | (apply aw_cond_f; exact rfl; exact (by assumption)) | refine aw_ret ?_ | refine aw_exit ?_ | refine aw_skip ?_ | (apply aw_ite; exact rfl; all_goals intro h))
    | refine thn_n ?_
    | (refine hK _ _ _ ?_; clear hK K)
    | refine thn_e ?_
    | refine thn_r ?_
    | refine inb_same ?_
    | refine inb_ne rfl ?_
    | refine inb_n ?_
    | refine inb_r ?_
    | (clear hK K; refine hK _ _ _ ?_; clear hK K)
    | (clear hK K; clear hK K; refine hK _ _ _ ?_; clear hK K)
    | (clear hK K; clear hK K; clear hK K; refine hK _ _ _ ?_; clear hK K))); all_goals (repeat (clear hK K)))
    all_goals refine fin_r (fin_b rfl ?_)
    all_goals simp_all
set_option maxHeartbeats 4000000 in
theorem implIsTree_ro (n : Int) (ls : List Ln) (ix : List Int) (hn : ls.length ≤ 1048576) (hr : ix.length ≤ 1048576) (k : Nat) : RO Try.prog 25 [.agg (bkL n ls), .dsl 1 (ix.map inL)] k (.v (.bool (itV n ls ix))) [] k := by
  have hok := ValidBackhaul_ro n ls hn
  unfold itV
  cases c1 : bkB n ls with
  | false =>
    refine RO.ofv' Try.func25 Try.ntmps25 rfl (goFn_of Try.func25 rfl (by kernel_rfl)) rfl rfl ?_
    unfold bkL at hok ⊢
    ((repeat' (first
    | (show SQ _ _ _ _ _ _ _ _; first | apply sq_nil | (apply q_move; exact rfl; exact rfl) | (apply q_assign; exact rfl; exact rfl) | (apply q_pick_t; exact rfl; exact rfl; exact rfl; exact (by first | assumption | exact rfl)) | (apply q_pick_f; exact rfl; exact rfl; exact rfl; exact (by first | assumption | exact rfl)) | (apply q_ld1d; exact rfl; exact rfl; exact (ty rfl); exact rfl; exact rfl) | (apply q_ld1p; exact rfl; exact rfl; exact (ty rfl); exact rfl; exact rfl; exact (by first | rfl | assumption); exact rfl) | (apply q_g; exact rfl; exact rfl; exact rfl; exact (by assumption)) | (apply q_s; exact rfl; exact rfl; exact rfl; exact (by assumption); exact rfl) | (apply q_g; exact rfl; exact rfl; exact rfl; exact rfl) | (apply q_s; exact rfl; exact rfl; exact rfl; exact rfl; exact rfl) | (apply q_sU; exact rfl; exact rfl; exact rfl; exact rfl))
    | (show SQ _ _ _ _ _ _ _ _; (first | (apply q_ldad; exact rfl; exact rfl; exact (ty rfl); exact rfl; exact rfl) | (apply q_ldap; exact rfl; exact rfl; exact (ty rfl); exact rfl; exact rfl; exact (by first | rfl | assumption); exact rfl) | (apply q_box; exact rfl; exact rfl; exact rfl) | (apply q_callU; exact rfl; exact rfl; exact rfl; exact FzL.of rfl; exact hok _) | (apply q_callU; exact rfl; exact rfl; exact rfl; rotate_left; exact hok _; rotate_right; focus ((repeat' (first | exact FzL.nil | exact (by assumption : FzC _) _ | refine FzL.cons ?_ ?_ | exact Fz.of rfl | exact Fz.nil | exact Fz.emp | (apply Fz.fnC; assumption) | (apply Fz.sl2; exact rfl; exact (by first | omega | (simp <;> omega)); first | exact rfl | exact dt_full (by first | omega | (simp <;> omega)) | assumption) | apply Fz.agg | (apply Fz.ptrL; exact rfl; exact rfl) | apply Fz.fnL)); done))); (try simp only [put, rowsOf, plR, List.all_cons, selE, ovr, setH, del, cellsA, splice, isV, List.nil_append, List.cons_append, List.map_cons, List.map_nil, List.length_cons, List.length_nil, List.set_cons_zero, List.set_cons_succ, List.take_succ_cons, List.take_zero, List.take_nil, List.drop_succ_cons, List.drop_zero, List.drop_nil, List.append_nil, List.all_cons, List.all_nil, Bool.and_true, Bool.true_and, Bool.and_false, Bool.false_and, Nat.reduceAdd, Nat.zero_add, Nat.add_zero, Nat.reduceEqDiff, if_true, if_false, reduceIte]))
    | (show SQ _ _ _ _ _ _ _ _; apply q_gs; exact rfl; exact rfl; exact rfl; exact rfl; all_goals intro h)
    | (show AW _ _ _ _ _ _ _ _; first | refine aw_region ?_ | (refine aw_seqk ?_; intro K hK) | refine aw_block ?_ | (apply aw_cond_t; exact rfl; exact rfl) | (apply aw_cond_f; exact rfl; exact rfl) | (apply aw_cond_t; exact rfl; exact (by assumption)) | (apply aw_cond_f; exact rfl; exact (by assumption)) | refine aw_ret ?_ | refine aw_exit ?_ | refine aw_skip ?_ | (apply aw_ite; exact rfl; all_goals intro h))
    | refine thn_n ?_
    | (refine hK _ _ _ ?_; clear hK K)
    | refine thn_e ?_
    | refine thn_r ?_
    | refine inb_same ?_
    | refine inb_ne rfl ?_
    | refine inb_n ?_
    | refine inb_r ?_
    | (clear hK K; refine hK _ _ _ ?_; clear hK K)
    | (clear hK K; clear hK K; refine hK _ _ _ ?_; clear hK K)
    | (clear hK K; clear hK K; clear hK K; refine hK _ _ _ ?_; clear hK K))); all_goals (repeat (clear hK K)))
    all_goals refine fin_r (fin_b rfl ?_)
    all_goals simp_all
  | true =>
    obtain ⟨hN, hL⟩ := bkB_in c1
    have hT := isTree_ro n ls ix hN hn hr hL
    refine RO.ofv' Try.func25 Try.ntmps25 rfl (goFn_of Try.func25 rfl (by kernel_rfl)) rfl rfl ?_
    unfold bkL at hok hT ⊢
    ((repeat' (first
    | (show SQ _ _ _ _ _ _ _ _; first | apply sq_nil | (apply q_move; exact rfl; exact rfl) | (apply q_assign; exact rfl; exact rfl) | (apply q_pick_t; exact rfl; exact rfl; exact rfl; exact (by first | assumption | exact rfl)) | (apply q_pick_f; exact rfl; exact rfl; exact rfl; exact (by first | assumption | exact rfl)) | (apply q_ld1d; exact rfl; exact rfl; exact (ty rfl); exact rfl; exact rfl) | (apply q_ld1p; exact rfl; exact rfl; exact (ty rfl); exact rfl; exact rfl; exact (by first | rfl | assumption); exact rfl) | (apply q_g; exact rfl; exact rfl; exact rfl; exact (by assumption)) | (apply q_s; exact rfl; exact rfl; exact rfl; exact (by assumption); exact rfl) | (apply q_g; exact rfl; exact rfl; exact rfl; exact rfl) | (apply q_s; exact rfl; exact rfl; exact rfl; exact rfl; exact rfl) | (apply q_sU; exact rfl; exact rfl; exact rfl; exact rfl))
    | (show SQ _ _ _ _ _ _ _ _; (first | (apply q_ldad; exact rfl; exact rfl; exact (ty rfl); exact rfl; exact rfl) | (apply q_ldap; exact rfl; exact rfl; exact (ty rfl); exact rfl; exact rfl; exact (by first | rfl | assumption); exact rfl) | (apply q_box; exact rfl; exact rfl; exact rfl) | (apply q_callU; exact rfl; exact rfl; exact rfl; exact FzL.of rfl; exact hok _) | (apply q_callU; exact rfl; exact rfl; exact rfl; exact FzL.of rfl; exact hT _) | (apply q_callU; exact rfl; exact rfl; exact rfl; rotate_left; exact hok _; rotate_right; focus ((repeat' (first | exact FzL.nil | exact (by assumption : FzC _) _ | refine FzL.cons ?_ ?_ | exact Fz.of rfl | exact Fz.nil | exact Fz.emp | (apply Fz.fnC; assumption) | (apply Fz.sl2; exact rfl; exact (by first | omega | (simp <;> omega)); first | exact rfl | exact dt_full (by first | omega | (simp <;> omega)) | assumption) | apply Fz.agg | (apply Fz.ptrL; exact rfl; exact rfl) | apply Fz.fnL)); done)) | (apply q_callU; exact rfl; exact rfl; exact rfl; rotate_left; exact hT _; rotate_right; focus ((repeat' (first | exact FzL.nil | exact (by assumption : FzC _) _ | refine FzL.cons ?_ ?_ | exact Fz.of rfl | exact Fz.nil | exact Fz.emp | (apply Fz.fnC; assumption) | (apply Fz.sl2; exact rfl; exact (by first | omega | (simp <;> omega)); first | exact rfl | exact dt_full (by first | omega | (simp <;> omega)) | assumption) | apply Fz.agg | (apply Fz.ptrL; exact rfl; exact rfl) | apply Fz.fnL)); done))); (try simp only [put, rowsOf, plR, List.all_cons, selE, ovr, setH, del, cellsA, splice, isV, List.nil_append, List.cons_append, List.map_cons, List.map_nil, List.length_cons, List.length_nil, List.set_cons_zero, List.set_cons_succ, List.take_succ_cons, List.take_zero, List.take_nil, List.drop_succ_cons, List.drop_zero, List.drop_nil, List.append_nil, List.all_cons, List.all_nil, Bool.and_true, Bool.true_and, Bool.and_false, Bool.false_and, Nat.reduceAdd, Nat.zero_add, Nat.add_zero, Nat.reduceEqDiff, if_true, if_false, reduceIte]))
    | (show SQ _ _ _ _ _ _ _ _; apply q_gs; exact rfl; exact rfl; exact rfl; exact rfl; all_goals intro h)
    | (show AW _ _ _ _ _ _ _ _; first | refine aw_region ?_ | (refine aw_seqk ?_; intro K hK) | refine aw_block ?_ | (apply aw_cond_t; exact rfl; exact rfl) | (apply aw_cond_f; exact rfl; exact rfl) | (apply aw_cond_t; exact rfl; exact (by assumption)) | (apply aw_cond_f; exact rfl; exact (by assumption)) | refine aw_ret ?_ | refine aw_exit ?_ | refine aw_skip ?_ | (apply aw_ite; exact rfl; all_goals intro h))
    | refine thn_n ?_
    | (refine hK _ _ _ ?_; clear hK K)
    | refine thn_e ?_
    | refine thn_r ?_
    | refine inb_same ?_
    | refine inb_ne rfl ?_
    | refine inb_n ?_
    | refine inb_r ?_
    | (clear hK K; refine hK _ _ _ ?_; clear hK K)
    | (clear hK K; clear hK K; refine hK _ _ _ ?_; clear hK K)
    | (clear hK K; clear hK K; clear hK K; refine hK _ _ _ ?_; clear hK K))); all_goals (repeat (clear hK K)))
    all_goals refine fin_r (fin_b rfl ?_)
    all_goals simp_all
set_option maxHeartbeats 4000000 in
theorem lawIsTree_ro (n : Int) (ls : List Ln) (ld : List Int) (hn : ls.length ≤ 9223372036854775807) (hn2 : ld.length ≤ 9223372036854775807) (k : Nat) : RO Try.prog 6 [.agg (bkL n ls), .dsl 1 (ld.map inL)] k (.v (.bool true)) [] k := by
  unfold bkL
  by_cases c0 : 1048576 < ld.length
  · have b0 : decide ((1048576 : Int) < ((ld.map inL).length : Int)) = true := by simp; omega
    refine RO.ofv' Try.func6 Try.ntmps6 rfl (goFn_of Try.func6 rfl (by kernel_rfl)) rfl rfl ?_
    ((repeat' (first
    | (show SQ _ _ _ _ _ _ _ _; first | apply sq_nil | (apply q_move; exact rfl; exact rfl) | (apply q_assign; exact rfl; exact rfl) | (apply q_not; exact rfl; exact rfl) | (apply q_lens; exact rfl; exact rfl; exact (ty rfl); exact rfl) | (apply q_lend; exact rfl; exact rfl; exact (ty rfl); exact rfl) | (apply q_lenl; exact rfl; exact rfl; exact (ty rfl); exact rfl) | (apply q_lenn; exact rfl; exact rfl; exact (ty rfl); exact rfl) | (apply q_neq; exact rfl; exact rfl; exact rfl) | (apply q_lss; exact rfl; exact rfl; exact rfl) | (apply q_gtr; exact rfl; exact rfl; exact rfl) | (apply q_sneq; exact rfl; exact rfl; exact rfl) | (apply q_slss; exact rfl; exact rfl; exact rfl) | (apply q_sgtr; exact rfl; exact rfl; exact rfl) | (apply q_bneq; exact rfl; exact rfl; exact rfl; exact (ty rfl); exact rfl) | (apply q_ld1d; exact rfl; exact rfl; exact (ty rfl); exact rfl; exact rfl) | (apply q_ld1p; exact rfl; exact rfl; exact (ty rfl); exact rfl; exact rfl; exact (by first | rfl | assumption); exact rfl) | (apply q_nea; exact rfl; exact rfl; exact rfl; kernel_rfl; assumption; exact rfl; exact rfl) | (apply q_nil_nv; exact rfl; exact rfl; exact rfl; exact (ty rfl); exact rfl) | (apply q_nil_nl; exact rfl; exact rfl; exact rfl; exact (ty rfl); exact rfl; exact (by first | omega | (simp <;> omega))))
    | (show SQ _ _ _ _ _ _ _ _; (first | (apply q_ldad; exact rfl; exact rfl; exact (ty rfl); exact rfl; exact rfl) | (apply q_ldap; exact rfl; exact rfl; exact (ty rfl); exact rfl; exact rfl; exact (by first | rfl | assumption); exact rfl) | (apply q_box; exact rfl; exact rfl; exact rfl) | (apply q_alloc; exact rfl; exact (ty rfl); exact rfl; exact rfl) | (apply q_store; exact rfl; exact rfl; exact (ty rfl); exact rfl; exact (by first | rfl | assumption | ((try simp only [Nat.zero_add]); refine List.getElem?_set_self ?_; (try simp only [List.length_set]); assumption)); exact rfl; exact rfl; exact rfl)); (try simp only [put, rowsOf, plR, List.all_cons, selE, ovr, setH, del, cellsA, splice, isV, List.nil_append, List.cons_append, List.map_cons, List.map_nil, List.length_cons, List.length_nil, List.set_cons_zero, List.set_cons_succ, List.take_succ_cons, List.take_zero, List.take_nil, List.drop_succ_cons, List.drop_zero, List.drop_nil, List.append_nil, List.all_cons, List.all_nil, Bool.and_true, Bool.true_and, Bool.and_false, Bool.false_and, Nat.reduceAdd, Nat.zero_add, Nat.add_zero, Nat.reduceEqDiff, if_true, if_false, reduceIte]))
    | (show DE _ _ _ _ _ _ _ _ _ _ _ _; first | (apply e_move; exact rfl; exact rfl; exact rfl) | (apply e_assign; exact rfl; exact rfl; exact rfl) | (apply e_not; exact rfl; exact rfl; exact rfl) | (apply e_lens; exact rfl; exact rfl; exact (ty rfl); exact rfl; exact rfl) | (apply e_lend; exact rfl; exact rfl; exact (ty rfl); exact rfl; exact rfl) | (apply e_lenl; exact rfl; exact rfl; exact (ty rfl); exact rfl; exact rfl) | (apply e_lenn; exact rfl; exact rfl; exact (ty rfl); exact rfl; exact rfl) | (apply e_neq; exact rfl; exact rfl; exact rfl; exact rfl) | (apply e_lss; exact rfl; exact rfl; exact rfl; exact rfl) | (apply e_gtr; exact rfl; exact rfl; exact rfl; exact rfl) | (apply e_sneq; exact rfl; exact rfl; exact rfl; exact rfl) | (apply e_slss; exact rfl; exact rfl; exact rfl; exact rfl) | (apply e_sgtr; exact rfl; exact rfl; exact rfl; exact rfl) | (apply e_bneq; exact rfl; exact rfl; exact rfl; exact (ty rfl); exact rfl; exact rfl) | (apply e_ld1d; exact rfl; exact rfl; exact (ty rfl); exact rfl; exact rfl; exact rfl) | (apply e_ld1p; exact rfl; exact rfl; exact (ty rfl); exact rfl; exact rfl; exact (by first | rfl | assumption); exact rfl; exact rfl) | (apply e_nea; exact rfl; exact rfl; exact rfl; kernel_rfl; assumption; exact rfl; exact rfl; exact rfl) | (apply e_nil_nv; exact rfl; exact rfl; exact rfl; exact (ty rfl); exact rfl; exact rfl) | (apply e_nil_nl; exact rfl; exact rfl; exact rfl; exact (ty rfl); exact rfl; exact (by first | omega | (simp <;> omega)); exact rfl))
    | (show DE _ _ _ _ _ _ _ _ _ _ _ _; (first | apply dr_nil | (apply e_ldad; exact rfl; exact rfl; exact (ty rfl); exact rfl; exact rfl; exact rfl) | (apply e_ldap; exact rfl; exact rfl; exact (ty rfl); exact rfl; exact rfl; exact (by first | rfl | assumption); exact rfl; exact rfl) | (apply e_box; exact rfl; exact rfl; exact rfl; exact rfl) | (apply e_alloc; exact rfl; exact (ty rfl); exact rfl; exact rfl; exact rfl) | (apply e_store; exact rfl; exact rfl; exact (ty rfl); exact rfl; exact (by first | rfl | assumption | ((try simp only [Nat.zero_add]); refine List.getElem?_set_self ?_; (try simp only [List.length_set]); assumption)); exact rfl; exact rfl; exact rfl; exact rfl)); (try simp only [put, rowsOf, plR, List.all_cons, selE, ovr, setH, del, cellsA, splice, isV, List.nil_append, List.cons_append, List.map_cons, List.map_nil, List.length_cons, List.length_nil, List.set_cons_zero, List.set_cons_succ, List.take_succ_cons, List.take_zero, List.take_nil, List.drop_succ_cons, List.drop_zero, List.drop_nil, List.append_nil, List.all_cons, List.all_nil, Bool.and_true, Bool.true_and, Bool.and_false, Bool.false_and, Nat.reduceAdd, Nat.zero_add, Nat.add_zero, Nat.reduceEqDiff, if_true, if_false, reduceIte]))
    | (show AW _ _ _ _ _ _ _ _; first | refine aw_region ?_ | (refine aw_seqk ?_; intro K hK) | refine aw_block ?_ | (apply aw_cond_t; exact rfl; exact rfl) | (apply aw_cond_f; exact rfl; exact rfl) | (apply aw_cond_t; exact rfl; exact (by assumption)) | (apply aw_cond_f; exact rfl; exact (by assumption)) | refine aw_ret ?_ | refine aw_exit ?_ | refine aw_skip ?_ | refine aw_drawE (id := 13) [0, 0, 2, 7, 15] [1, 1, 1, 1, 0] mixed (by kernel_rfl) ?_ | (apply aw_ite; exact rfl; all_goals intro h))
    | refine thn_n ?_
    | (refine hK _ _ _ ?_; clear hK K)
    | refine thn_e ?_
    | refine thn_r ?_
    | refine inb_same ?_
    | refine inb_ne rfl ?_
    | refine inb_n ?_
    | refine inb_r ?_
    | (clear hK K; refine hK _ _ _ ?_; clear hK K)
    | (clear hK K; clear hK K; refine hK _ _ _ ?_; clear hK K)
    | (clear hK K; clear hK K; clear hK K; refine hK _ _ _ ?_; clear hK K))); all_goals (repeat (clear hK K)))
    all_goals exact fin_r (fin_b rfl rfl)
  have b0 : decide ((1048576 : Int) < ((ld.map inL).length : Int)) = false := by simp; omega
  by_cases c1 : szB ls.length 1048576 < 0
  · have b1 : decide (szB ls.length 1048576 < 0) = true := by simpa using c1
    refine RO.ofv' Try.func6 Try.ntmps6 rfl (goFn_of Try.func6 rfl (by kernel_rfl)) rfl rfl ?_
    ((repeat' (first
    | (show SQ _ _ _ _ _ _ _ _; first | apply sq_nil | (apply q_move; exact rfl; exact rfl) | (apply q_assign; exact rfl; exact rfl) | (apply q_not; exact rfl; exact rfl) | (apply q_lens; exact rfl; exact rfl; exact (ty rfl); exact rfl) | (apply q_lend; exact rfl; exact rfl; exact (ty rfl); exact rfl) | (apply q_lenl; exact rfl; exact rfl; exact (ty rfl); exact rfl) | (apply q_lenn; exact rfl; exact rfl; exact (ty rfl); exact rfl) | (apply q_neq; exact rfl; exact rfl; exact rfl) | (apply q_lss; exact rfl; exact rfl; exact rfl) | (apply q_gtr; exact rfl; exact rfl; exact rfl) | (apply q_sneq; exact rfl; exact rfl; exact rfl) | (apply q_slss; exact rfl; exact rfl; exact rfl) | (apply q_sgtr; exact rfl; exact rfl; exact rfl) | (apply q_bneq; exact rfl; exact rfl; exact rfl; exact (ty rfl); exact rfl) | (apply q_ld1d; exact rfl; exact rfl; exact (ty rfl); exact rfl; exact rfl) | (apply q_ld1p; exact rfl; exact rfl; exact (ty rfl); exact rfl; exact rfl; exact (by first | rfl | assumption); exact rfl) | (apply q_nea; exact rfl; exact rfl; exact rfl; kernel_rfl; assumption; exact rfl; exact rfl) | (apply q_nil_nv; exact rfl; exact rfl; exact rfl; exact (ty rfl); exact rfl) | (apply q_nil_nl; exact rfl; exact rfl; exact rfl; exact (ty rfl); exact rfl; exact (by first | omega | (simp <;> omega))))
    | (show SQ _ _ _ _ _ _ _ _; (first | (apply q_ldad; exact rfl; exact rfl; exact (ty rfl); exact rfl; exact rfl) | (apply q_ldap; exact rfl; exact rfl; exact (ty rfl); exact rfl; exact rfl; exact (by first | rfl | assumption); exact rfl) | (apply q_box; exact rfl; exact rfl; exact rfl) | (apply q_alloc; exact rfl; exact (ty rfl); exact rfl; exact rfl) | (apply q_store; exact rfl; exact rfl; exact (ty rfl); exact rfl; exact (by first | rfl | assumption | ((try simp only [Nat.zero_add]); refine List.getElem?_set_self ?_; (try simp only [List.length_set]); assumption)); exact rfl; exact rfl; exact rfl) | (apply q_callU; exact rfl; exact rfl; exact rfl; exact FzL.of rfl; exact szBackhaul_ro n ls 1048576 hn (by omega) (by omega) _) | (apply q_callU; exact rfl; exact rfl; exact rfl; rotate_left; exact szBackhaul_ro n ls 1048576 hn (by omega) (by omega) _; rotate_right; focus ((repeat' (first | exact FzL.nil | exact (by assumption : FzC _) _ | refine FzL.cons ?_ ?_ | exact Fz.of rfl | exact Fz.nil | exact Fz.emp | (apply Fz.fnC; assumption) | (apply Fz.sl2; exact rfl; exact (by first | omega | (simp <;> omega)); first | exact rfl | exact dt_full (by first | omega | (simp <;> omega)) | assumption) | apply Fz.agg | (apply Fz.ptrL; exact rfl; exact rfl) | apply Fz.fnL)); done))); (try simp only [put, rowsOf, plR, List.all_cons, selE, ovr, setH, del, cellsA, splice, isV, List.nil_append, List.cons_append, List.map_cons, List.map_nil, List.length_cons, List.length_nil, List.set_cons_zero, List.set_cons_succ, List.take_succ_cons, List.take_zero, List.take_nil, List.drop_succ_cons, List.drop_zero, List.drop_nil, List.append_nil, List.all_cons, List.all_nil, Bool.and_true, Bool.true_and, Bool.and_false, Bool.false_and, Nat.reduceAdd, Nat.zero_add, Nat.add_zero, Nat.reduceEqDiff, if_true, if_false, reduceIte]))
    | (show DE _ _ _ _ _ _ _ _ _ _ _ _; first | (apply e_move; exact rfl; exact rfl; exact rfl) | (apply e_assign; exact rfl; exact rfl; exact rfl) | (apply e_not; exact rfl; exact rfl; exact rfl) | (apply e_lens; exact rfl; exact rfl; exact (ty rfl); exact rfl; exact rfl) | (apply e_lend; exact rfl; exact rfl; exact (ty rfl); exact rfl; exact rfl) | (apply e_lenl; exact rfl; exact rfl; exact (ty rfl); exact rfl; exact rfl) | (apply e_lenn; exact rfl; exact rfl; exact (ty rfl); exact rfl; exact rfl) | (apply e_neq; exact rfl; exact rfl; exact rfl; exact rfl) | (apply e_lss; exact rfl; exact rfl; exact rfl; exact rfl) | (apply e_gtr; exact rfl; exact rfl; exact rfl; exact rfl) | (apply e_sneq; exact rfl; exact rfl; exact rfl; exact rfl) | (apply e_slss; exact rfl; exact rfl; exact rfl; exact rfl) | (apply e_sgtr; exact rfl; exact rfl; exact rfl; exact rfl) | (apply e_bneq; exact rfl; exact rfl; exact rfl; exact (ty rfl); exact rfl; exact rfl) | (apply e_ld1d; exact rfl; exact rfl; exact (ty rfl); exact rfl; exact rfl; exact rfl) | (apply e_ld1p; exact rfl; exact rfl; exact (ty rfl); exact rfl; exact rfl; exact (by first | rfl | assumption); exact rfl; exact rfl) | (apply e_nea; exact rfl; exact rfl; exact rfl; kernel_rfl; assumption; exact rfl; exact rfl; exact rfl) | (apply e_nil_nv; exact rfl; exact rfl; exact rfl; exact (ty rfl); exact rfl; exact rfl) | (apply e_nil_nl; exact rfl; exact rfl; exact rfl; exact (ty rfl); exact rfl; exact (by first | omega | (simp <;> omega)); exact rfl))
    | (show DE _ _ _ _ _ _ _ _ _ _ _ _; (first | apply dr_nil | (apply e_ldad; exact rfl; exact rfl; exact (ty rfl); exact rfl; exact rfl; exact rfl) | (apply e_ldap; exact rfl; exact rfl; exact (ty rfl); exact rfl; exact rfl; exact (by first | rfl | assumption); exact rfl; exact rfl) | (apply e_box; exact rfl; exact rfl; exact rfl; exact rfl) | (apply e_alloc; exact rfl; exact (ty rfl); exact rfl; exact rfl; exact rfl) | (apply e_store; exact rfl; exact rfl; exact (ty rfl); exact rfl; exact (by first | rfl | assumption | ((try simp only [Nat.zero_add]); refine List.getElem?_set_self ?_; (try simp only [List.length_set]); assumption)); exact rfl; exact rfl; exact rfl; exact rfl) | (apply e_callU; exact rfl; exact rfl; exact rfl; exact FzL.of rfl; exact szBackhaul_ro n ls 1048576 hn (by omega) (by omega) _; exact rfl) | (apply e_callU; exact rfl; exact rfl; exact rfl; rotate_left; exact szBackhaul_ro n ls 1048576 hn (by omega) (by omega) _; exact rfl; rotate_right; focus ((repeat' (first | exact FzL.nil | exact (by assumption : FzC _) _ | refine FzL.cons ?_ ?_ | exact Fz.of rfl | exact Fz.nil | exact Fz.emp | (apply Fz.fnC; assumption) | (apply Fz.sl2; exact rfl; exact (by first | omega | (simp <;> omega)); first | exact rfl | exact dt_full (by first | omega | (simp <;> omega)) | assumption) | apply Fz.agg | (apply Fz.ptrL; exact rfl; exact rfl) | apply Fz.fnL)); done))); (try simp only [put, rowsOf, plR, List.all_cons, selE, ovr, setH, del, cellsA, splice, isV, List.nil_append, List.cons_append, List.map_cons, List.map_nil, List.length_cons, List.length_nil, List.set_cons_zero, List.set_cons_succ, List.take_succ_cons, List.take_zero, List.take_nil, List.drop_succ_cons, List.drop_zero, List.drop_nil, List.append_nil, List.all_cons, List.all_nil, Bool.and_true, Bool.true_and, Bool.and_false, Bool.false_and, Nat.reduceAdd, Nat.zero_add, Nat.add_zero, Nat.reduceEqDiff, if_true, if_false, reduceIte]))
    | (show AW _ _ _ _ _ _ _ _; first | refine aw_region ?_ | (refine aw_seqk ?_; intro K hK) | refine aw_block ?_ | (apply aw_cond_t; exact rfl; exact rfl) | (apply aw_cond_f; exact rfl; exact rfl) | (apply aw_cond_t; exact rfl; exact (by assumption)) | (apply aw_cond_f; exact rfl; exact (by assumption)) | refine aw_ret ?_ | refine aw_exit ?_ | refine aw_skip ?_ | refine aw_drawE (id := 13) [0, 0, 2, 7, 15] [1, 1, 1, 1, 0] mixed (by kernel_rfl) ?_ | (apply aw_ite; exact rfl; all_goals intro h))
    | refine thn_n ?_
    | (refine hK _ _ _ ?_; clear hK K)
    | refine thn_e ?_
    | refine thn_r ?_
    | refine inb_same ?_
    | refine inb_ne rfl ?_
    | refine inb_n ?_
    | refine inb_r ?_
    | (clear hK K; refine hK _ _ _ ?_; clear hK K)
    | (clear hK K; clear hK K; refine hK _ _ _ ?_; clear hK K)
    | (clear hK K; clear hK K; clear hK K; refine hK _ _ _ ?_; clear hK K))); all_goals (repeat (clear hK K)))
    all_goals exact fin_r (fin_b rfl rfl)
  have b1 : decide (szB ls.length 1048576 < 0) = false := by simpa using c1
  obtain ⟨m1, z0, z1, _⟩ := szB_in (by omega) (by omega) c1
  have m2 : ld.length ≤ 1048576 := by omega
  have e1 : (itV n ls ld != itV n ls ld) = false := by simp
  refine RO.ofv' Try.func6 Try.ntmps6 rfl (goFn_of Try.func6 rfl (by kernel_rfl)) rfl rfl ?_
  ((repeat' (first
    | (show SQ _ _ _ _ _ _ _ _; first | apply sq_nil | (apply q_move; exact rfl; exact rfl) | (apply q_assign; exact rfl; exact rfl) | (apply q_not; exact rfl; exact rfl) | (apply q_lens; exact rfl; exact rfl; exact (ty rfl); exact rfl) | (apply q_lend; exact rfl; exact rfl; exact (ty rfl); exact rfl) | (apply q_lenl; exact rfl; exact rfl; exact (ty rfl); exact rfl) | (apply q_lenn; exact rfl; exact rfl; exact (ty rfl); exact rfl) | (apply q_neq; exact rfl; exact rfl; exact rfl) | (apply q_lss; exact rfl; exact rfl; exact rfl) | (apply q_gtr; exact rfl; exact rfl; exact rfl) | (apply q_sneq; exact rfl; exact rfl; exact rfl) | (apply q_slss; exact rfl; exact rfl; exact rfl) | (apply q_sgtr; exact rfl; exact rfl; exact rfl) | (apply q_bneq; exact rfl; exact rfl; exact rfl; exact (ty rfl); exact rfl) | (apply q_ld1d; exact rfl; exact rfl; exact (ty rfl); exact rfl; exact rfl) | (apply q_ld1p; exact rfl; exact rfl; exact (ty rfl); exact rfl; exact rfl; exact (by first | rfl | assumption); exact rfl) | (apply q_nea; exact rfl; exact rfl; exact rfl; kernel_rfl; assumption; exact rfl; exact rfl) | (apply q_nil_nv; exact rfl; exact rfl; exact rfl; exact (ty rfl); exact rfl) | (apply q_nil_nl; exact rfl; exact rfl; exact rfl; exact (ty rfl); exact rfl; exact (by first | omega | (simp <;> omega))))
    | (show SQ _ _ _ _ _ _ _ _; (first | (apply q_ldad; exact rfl; exact rfl; exact (ty rfl); exact rfl; exact rfl) | (apply q_ldap; exact rfl; exact rfl; exact (ty rfl); exact rfl; exact rfl; exact (by first | rfl | assumption); exact rfl) | (apply q_box; exact rfl; exact rfl; exact rfl) | (apply q_alloc; exact rfl; exact (ty rfl); exact rfl; exact rfl) | (apply q_store; exact rfl; exact rfl; exact (ty rfl); exact rfl; exact (by first | rfl | assumption | ((try simp only [Nat.zero_add]); refine List.getElem?_set_self ?_; (try simp only [List.length_set]); assumption)); exact rfl; exact rfl; exact rfl) | (apply q_callU; exact rfl; exact rfl; exact rfl; exact FzL.of rfl; exact szBackhaul_ro n ls 1048576 hn (by omega) (by omega) _) | (apply q_callU; exact rfl; exact rfl; exact rfl; exact FzL.of rfl; exact toBackhaul_ro n ls m1 _) | (apply q_callU; exact rfl; exact rfl; exact rfl; exact FzL.of rfl; exact toInt64S_ro ld m2 _) | (apply q_callU; exact rfl; exact rfl; exact rfl; exact FzL.of rfl; exact specIsTree_ro n ls ld m1 m2 _) | (apply q_callU; exact rfl; exact rfl; exact rfl; exact FzL.of rfl; exact implIsTree_ro n ls ld m1 m2 _) | (apply q_callU; exact rfl; exact rfl; exact rfl; exact FzL.of rfl; exact eqBackhaul_ro n ls m1 _) | (apply q_callU; exact rfl; exact rfl; exact rfl; exact FzL.of rfl; exact eqInt64S_ro ld m2 _) | (apply q_callU; exact rfl; exact rfl; exact rfl; rotate_left; exact szBackhaul_ro n ls 1048576 hn (by omega) (by omega) _; rotate_right; focus ((repeat' (first | exact FzL.nil | exact (by assumption : FzC _) _ | refine FzL.cons ?_ ?_ | exact Fz.of rfl | exact Fz.nil | exact Fz.emp | (apply Fz.fnC; assumption) | (apply Fz.sl2; exact rfl; exact (by first | omega | (simp <;> omega)); first | exact rfl | exact dt_full (by first | omega | (simp <;> omega)) | assumption) | apply Fz.agg | (apply Fz.ptrL; exact rfl; exact rfl) | apply Fz.fnL)); done)) | (apply q_callU; exact rfl; exact rfl; exact rfl; rotate_left; exact toBackhaul_ro n ls m1 _; rotate_right; focus ((repeat' (first | exact FzL.nil | exact (by assumption : FzC _) _ | refine FzL.cons ?_ ?_ | exact Fz.of rfl | exact Fz.nil | exact Fz.emp | (apply Fz.fnC; assumption) | (apply Fz.sl2; exact rfl; exact (by first | omega | (simp <;> omega)); first | exact rfl | exact dt_full (by first | omega | (simp <;> omega)) | assumption) | apply Fz.agg | (apply Fz.ptrL; exact rfl; exact rfl) | apply Fz.fnL)); done)) | (apply q_callU; exact rfl; exact rfl; exact rfl; rotate_left; exact toInt64S_ro ld m2 _; rotate_right; focus ((repeat' (first | exact FzL.nil | exact (by assumption : FzC _) _ | refine FzL.cons ?_ ?_ | exact Fz.of rfl | exact Fz.nil | exact Fz.emp | (apply Fz.fnC; assumption) | (apply Fz.sl2; exact rfl; exact (by first | omega | (simp <;> omega)); first | exact rfl | exact dt_full (by first | omega | (simp <;> omega)) | assumption) | apply Fz.agg | (apply Fz.ptrL; exact rfl; exact rfl) | apply Fz.fnL)); done)) | (apply q_callU; exact rfl; exact rfl; exact rfl; rotate_left; exact specIsTree_ro n ls ld m1 m2 _; rotate_right; focus ((repeat' (first | exact FzL.nil | exact (by assumption : FzC _) _ | refine FzL.cons ?_ ?_ | exact Fz.of rfl | exact Fz.nil | exact Fz.emp | (apply Fz.fnC; assumption) | (apply Fz.sl2; exact rfl; exact (by first | omega | (simp <;> omega)); first | exact rfl | exact dt_full (by first | omega | (simp <;> omega)) | assumption) | apply Fz.agg | (apply Fz.ptrL; exact rfl; exact rfl) | apply Fz.fnL)); done)) | (apply q_callU; exact rfl; exact rfl; exact rfl; rotate_left; exact implIsTree_ro n ls ld m1 m2 _; rotate_right; focus ((repeat' (first | exact FzL.nil | exact (by assumption : FzC _) _ | refine FzL.cons ?_ ?_ | exact Fz.of rfl | exact Fz.nil | exact Fz.emp | (apply Fz.fnC; assumption) | (apply Fz.sl2; exact rfl; exact (by first | omega | (simp <;> omega)); first | exact rfl | exact dt_full (by first | omega | (simp <;> omega)) | assumption) | apply Fz.agg | (apply Fz.ptrL; exact rfl; exact rfl) | apply Fz.fnL)); done)) | (apply q_callU; exact rfl; exact rfl; exact rfl; rotate_left; exact eqBackhaul_ro n ls m1 _; rotate_right; focus ((repeat' (first | exact FzL.nil | exact (by assumption : FzC _) _ | refine FzL.cons ?_ ?_ | exact Fz.of rfl | exact Fz.nil | exact Fz.emp | (apply Fz.fnC; assumption) | (apply Fz.sl2; exact rfl; exact (by first | omega | (simp <;> omega)); first | exact rfl | exact dt_full (by first | omega | (simp <;> omega)) | assumption) | apply Fz.agg | (apply Fz.ptrL; exact rfl; exact rfl) | apply Fz.fnL)); done)) | (apply q_callU; exact rfl; exact rfl; exact rfl; rotate_left; exact eqInt64S_ro ld m2 _; rotate_right; focus ((repeat' (first | exact FzL.nil | exact (by assumption : FzC _) _ | refine FzL.cons ?_ ?_ | exact Fz.of rfl | exact Fz.nil | exact Fz.emp | (apply Fz.fnC; assumption) | (apply Fz.sl2; exact rfl; exact (by first | omega | (simp <;> omega)); first | exact rfl | exact dt_full (by first | omega | (simp <;> omega)) | assumption) | apply Fz.agg | (apply Fz.ptrL; exact rfl; exact rfl) | apply Fz.fnL)); done))); (try simp only [put, rowsOf, plR, List.all_cons, selE, ovr, setH, del, cellsA, splice, isV, List.nil_append, List.cons_append, List.map_cons, List.map_nil, List.length_cons, List.length_nil, List.set_cons_zero, List.set_cons_succ, List.take_succ_cons, List.take_zero, List.take_nil, List.drop_succ_cons, List.drop_zero, List.drop_nil, List.append_nil, List.all_cons, List.all_nil, Bool.and_true, Bool.true_and, Bool.and_false, Bool.false_and, Nat.reduceAdd, Nat.zero_add, Nat.add_zero, Nat.reduceEqDiff, if_true, if_false, reduceIte]))
    | (show DE _ _ _ _ _ _ _ _ _ _ _ _; first | (apply e_move; exact rfl; exact rfl; exact rfl) | (apply e_assign; exact rfl; exact rfl; exact rfl) | (apply e_not; exact rfl; exact rfl; exact rfl) | (apply e_lens; exact rfl; exact rfl; exact (ty rfl); exact rfl; exact rfl) | (apply e_lend; exact rfl; exact rfl; exact (ty rfl); exact rfl; exact rfl) | (apply e_lenl; exact rfl; exact rfl; exact (ty rfl); exact rfl; exact rfl) | (apply e_lenn; exact rfl; exact rfl; exact (ty rfl); exact rfl; exact rfl) | (apply e_neq; exact rfl; exact rfl; exact rfl; exact rfl) | (apply e_lss; exact rfl; exact rfl; exact rfl; exact rfl) | (apply e_gtr; exact rfl; exact rfl; exact rfl; exact rfl) | (apply e_sneq; exact rfl; exact rfl; exact rfl; exact rfl) | (apply e_slss; exact rfl; exact rfl; exact rfl; exact rfl) | (apply e_sgtr; exact rfl; exact rfl; exact rfl; exact rfl) | (apply e_bneq; exact rfl; exact rfl; exact rfl; exact (ty rfl); exact rfl; exact rfl) | (apply e_ld1d; exact rfl; exact rfl; exact (ty rfl); exact rfl; exact rfl; exact rfl) | (apply e_ld1p; exact rfl; exact rfl; exact (ty rfl); exact rfl; exact rfl; exact (by first | rfl | assumption); exact rfl; exact rfl) | (apply e_nea; exact rfl; exact rfl; exact rfl; kernel_rfl; assumption; exact rfl; exact rfl; exact rfl) | (apply e_nil_nv; exact rfl; exact rfl; exact rfl; exact (ty rfl); exact rfl; exact rfl) | (apply e_nil_nl; exact rfl; exact rfl; exact rfl; exact (ty rfl); exact rfl; exact (by first | omega | (simp <;> omega)); exact rfl))
    | (show DE _ _ _ _ _ _ _ _ _ _ _ _; (first | apply dr_nil | (apply e_ldad; exact rfl; exact rfl; exact (ty rfl); exact rfl; exact rfl; exact rfl) | (apply e_ldap; exact rfl; exact rfl; exact (ty rfl); exact rfl; exact rfl; exact (by first | rfl | assumption); exact rfl; exact rfl) | (apply e_box; exact rfl; exact rfl; exact rfl; exact rfl) | (apply e_alloc; exact rfl; exact (ty rfl); exact rfl; exact rfl; exact rfl) | (apply e_store; exact rfl; exact rfl; exact (ty rfl); exact rfl; exact (by first | rfl | assumption | ((try simp only [Nat.zero_add]); refine List.getElem?_set_self ?_; (try simp only [List.length_set]); assumption)); exact rfl; exact rfl; exact rfl; exact rfl) | (apply e_callU; exact rfl; exact rfl; exact rfl; exact FzL.of rfl; exact szBackhaul_ro n ls 1048576 hn (by omega) (by omega) _; exact rfl) | (apply e_callU; exact rfl; exact rfl; exact rfl; exact FzL.of rfl; exact toBackhaul_ro n ls m1 _; exact rfl) | (apply e_callU; exact rfl; exact rfl; exact rfl; exact FzL.of rfl; exact toInt64S_ro ld m2 _; exact rfl) | (apply e_callU; exact rfl; exact rfl; exact rfl; exact FzL.of rfl; exact specIsTree_ro n ls ld m1 m2 _; exact rfl) | (apply e_callU; exact rfl; exact rfl; exact rfl; exact FzL.of rfl; exact implIsTree_ro n ls ld m1 m2 _; exact rfl) | (apply e_callU; exact rfl; exact rfl; exact rfl; exact FzL.of rfl; exact eqBackhaul_ro n ls m1 _; exact rfl) | (apply e_callU; exact rfl; exact rfl; exact rfl; exact FzL.of rfl; exact eqInt64S_ro ld m2 _; exact rfl) | (apply e_callU; exact rfl; exact rfl; exact rfl; rotate_left; exact szBackhaul_ro n ls 1048576 hn (by omega) (by omega) _; exact rfl; rotate_right; focus ((repeat' (first | exact FzL.nil | exact (by assumption : FzC _) _ | refine FzL.cons ?_ ?_ | exact Fz.of rfl | exact Fz.nil | exact Fz.emp | (apply Fz.fnC; assumption) | (apply Fz.sl2; exact rfl; exact (by first | omega | (simp <;> omega)); first | exact rfl | exact dt_full (by first | omega | (simp <;> omega)) | assumption) | apply Fz.agg | (apply Fz.ptrL; exact rfl; exact rfl) | apply Fz.fnL)); done)) | (apply e_callU; exact rfl; exact rfl; exact rfl; rotate_left; exact toBackhaul_ro n ls m1 _; exact rfl; rotate_right; focus ((repeat' (first | exact FzL.nil | exact (by assumption : FzC _) _ | refine FzL.cons ?_ ?_ | exact Fz.of rfl | exact Fz.nil | exact Fz.emp | (apply Fz.fnC; assumption) | (apply Fz.sl2; exact rfl; exact (by first | omega | (simp <;> omega)); first | exact rfl | exact dt_full (by first | omega | (simp <;> omega)) | assumption) | apply Fz.agg | (apply Fz.ptrL; exact rfl; exact rfl) | apply Fz.fnL)); done)) | (apply e_callU; exact rfl; exact rfl; exact rfl; rotate_left; exact toInt64S_ro ld m2 _; exact rfl; rotate_right; focus ((repeat' (first | exact FzL.nil | exact (by assumption : FzC _) _ | refine FzL.cons ?_ ?_ | exact Fz.of rfl | exact Fz.nil | exact Fz.emp | (apply Fz.fnC; assumption) | (apply Fz.sl2; exact rfl; exact (by first | omega | (simp <;> omega)); first | exact rfl | exact dt_full (by first | omega | (simp <;> omega)) | assumption) | apply Fz.agg | (apply Fz.ptrL; exact rfl; exact rfl) | apply Fz.fnL)); done)) | (apply e_callU; exact rfl; exact rfl; exact rfl; rotate_left; exact specIsTree_ro n ls ld m1 m2 _; exact rfl; rotate_right; focus ((repeat' (first | exact FzL.nil | exact (by assumption : FzC _) _ | refine FzL.cons ?_ ?_ | exact Fz.of rfl | exact Fz.nil | exact Fz.emp | (apply Fz.fnC; assumption) | (apply Fz.sl2; exact rfl; exact (by first | omega | (simp <;> omega)); first | exact rfl | exact dt_full (by first | omega | (simp <;> omega)) | assumption) | apply Fz.agg | (apply Fz.ptrL; exact rfl; exact rfl) | apply Fz.fnL)); done)) | (apply e_callU; exact rfl; exact rfl; exact rfl; rotate_left; exact implIsTree_ro n ls ld m1 m2 _; exact rfl; rotate_right; focus ((repeat' (first | exact FzL.nil | exact (by assumption : FzC _) _ | refine FzL.cons ?_ ?_ | exact Fz.of rfl | exact Fz.nil | exact Fz.emp | (apply Fz.fnC; assumption) | (apply Fz.sl2; exact rfl; exact (by first | omega | (simp <;> omega)); first | exact rfl | exact dt_full (by first | omega | (simp <;> omega)) | assumption) | apply Fz.agg | (apply Fz.ptrL; exact rfl; exact rfl) | apply Fz.fnL)); done)) | (apply e_callU; exact rfl; exact rfl; exact rfl; rotate_left; exact eqBackhaul_ro n ls m1 _; exact rfl; rotate_right; focus ((repeat' (first | exact FzL.nil | exact (by assumption : FzC _) _ | refine FzL.cons ?_ ?_ | exact Fz.of rfl | exact Fz.nil | exact Fz.emp | (apply Fz.fnC; assumption) | (apply Fz.sl2; exact rfl; exact (by first | omega | (simp <;> omega)); first | exact rfl | exact dt_full (by first | omega | (simp <;> omega)) | assumption) | apply Fz.agg | (apply Fz.ptrL; exact rfl; exact rfl) | apply Fz.fnL)); done)) | (apply e_callU; exact rfl; exact rfl; exact rfl; rotate_left; exact eqInt64S_ro ld m2 _; exact rfl; rotate_right; focus ((repeat' (first | exact FzL.nil | exact (by assumption : FzC _) _ | refine FzL.cons ?_ ?_ | exact Fz.of rfl | exact Fz.nil | exact Fz.emp | (apply Fz.fnC; assumption) | (apply Fz.sl2; exact rfl; exact (by first | omega | (simp <;> omega)); first | exact rfl | exact dt_full (by first | omega | (simp <;> omega)) | assumption) | apply Fz.agg | (apply Fz.ptrL; exact rfl; exact rfl) | apply Fz.fnL)); done))); (try simp only [put, rowsOf, plR, List.all_cons, selE, ovr, setH, del, cellsA, splice, isV, List.nil_append, List.cons_append, List.map_cons, List.map_nil, List.length_cons, List.length_nil, List.set_cons_zero, List.set_cons_succ, List.take_succ_cons, List.take_zero, List.take_nil, List.drop_succ_cons, List.drop_zero, List.drop_nil, List.append_nil, List.all_cons, List.all_nil, Bool.and_true, Bool.true_and, Bool.and_false, Bool.false_and, Nat.reduceAdd, Nat.zero_add, Nat.add_zero, Nat.reduceEqDiff, if_true, if_false, reduceIte]))
    | (show AW _ _ _ _ _ _ _ _; first | refine aw_region ?_ | (refine aw_seqk ?_; intro K hK) | refine aw_block ?_ | (apply aw_cond_t; exact rfl; exact rfl) | (apply aw_cond_f; exact rfl; exact rfl) | (apply aw_cond_t; exact rfl; exact (by assumption)) | (apply aw_cond_f; exact rfl; exact (by assumption)) | refine aw_ret ?_ | refine aw_exit ?_ | refine aw_skip ?_ | refine aw_drawE (id := 13) [0, 0, 2, 7, 15] [1, 1, 1, 1, 0] mixed (by kernel_rfl) ?_ | (apply aw_ite; exact rfl; all_goals intro h))
    | refine thn_n ?_
    | (refine hK _ _ _ ?_; clear hK K)
    | refine thn_e ?_
    | refine thn_r ?_
    | refine inb_same ?_
    | refine inb_ne rfl ?_
    | refine inb_n ?_
    | refine inb_r ?_
    | (clear hK K; refine hK _ _ _ ?_; clear hK K)
    | (clear hK K; clear hK K; refine hK _ _ _ ?_; clear hK K)
    | (clear hK K; clear hK K; clear hK K; refine hK _ _ _ ?_; clear hK K))); all_goals (repeat (clear hK K)))
  all_goals refine fin_r (fin_b rfl ?_)
  all_goals simp_all
end Go.Proofs.Ytgjgklkboldkfaa.Bk
