/-
  What the law FnTrees rests on, part 8.
-/
import Derived.Test.YtglfcaioapdiaaaZFnTrees7
namespace Go.Proofs.Ytglfcaioapdiaaa.Bk
open Go Go.RowKit Go.Proofs.Ytglfcaioapdiaaa.Aw
set_option linter.unusedSimpArgs false
set_option linter.unusedVariables false
attribute [local irreducible] AW SQ Step RO RC DE Thn InB
set_option maxHeartbeats 4000000 in
theorem implCrit_ok_ro (n : Int) (ls : List Ln) (hn : ls.length ≤ 1048576) (h : bkB n ls = true) (k : Nat) :
    RO Try.prog 42 [.agg (bkL n ls)] k (.tup [.sl k 0 (selI (crB n ls) ls.length).length, .v (.int .i64 0)]) [(k, ⟨2, 1, true, (selI (crB n ls) ls.length).map inL⟩)] (k + 1) := by
  have b1 : (!bkB n ls) = false := by rw [h]; rfl
  obtain ⟨hN, hL⟩ := bkB_in h
  have hok := ValidBackhaul_ro n ls hn
  have hRe := fun ix frm hr hix hf => reached_ro n ls ix frm hN hn hr hL hix hf
  refine RO.ofm (.tup [.sl 0 0 (selI (crB n ls) ls.length).length, .v (.int .i64 0)]) ([(0, ⟨2, 1, true, (selI (crB n ls) ls.length).map inL⟩)]) 1 Try.func42 Try.ntmps42 rfl (goFn_of Try.func42 rfl (by kernel_rfl)) rfl rfl (by simp [renA, renL]) (by simp [shH, renB]) rfl ?_
  unfold bkL at hok hRe ⊢
  ((repeat' (first
    | (show SQ _ _ _ _ _ _ _ _; first | apply sq_nil | (apply q_move; exact rfl; exact rfl) | (apply q_assign; exact rfl; exact rfl) | (apply q_fieldAddr; exact rfl; exact rfl; exact (ty rfl); iterate 4 exact rfl) | (apply q_not; exact rfl; exact rfl) | (apply q_lend; exact rfl; exact rfl; exact (ty rfl); exact rfl) | (apply q_ld1p; exact rfl; exact rfl; exact (ty rfl); exact rfl; exact rfl; exact (by first | rfl | assumption | ((try simp only [Nat.zero_add]); refine List.getElem?_set_self ?_; (try simp only [List.length_set]); assumption)); exact rfl))
    | (show SQ _ _ _ _ _ _ _ _; (first | (apply q_ldap; exact rfl; exact rfl; exact (ty rfl); exact rfl; exact rfl; exact (by first | rfl | assumption | ((try simp only [Nat.zero_add]); refine List.getElem?_set_self ?_; (try simp only [List.length_set]); assumption)); exact rfl) | (apply q_box; iterate 3 exact rfl) | (apply q_callU; (iterate 3 exact rfl); exact FzL.of rfl; exact hok _)); (try simp only [put, rowsOf, plR, selE, ovr, setH, del, cellsA, splice, isV, spq, if_true, if_false]))
    | (show AW _ _ _ _ _ _ _ _; first | refine aw_region ?_ | (refine aw_seqk ?_; intro K hK) | refine aw_block ?_ | (apply aw_cond_f; exact rfl; exact (by assumption)) | refine aw_skip ?_)
    | refine thn_n ?_
    | (refine hK _ _ _ ?_; clear hK K))); all_goals (repeat (clear hK K)))
  refine aw_nil (t := 4) 2 1 rfl ?_
  refine aw_loop (ρ := id) (ι := Nat) (fun i => ([(15, .v (.int .i64 i)), (14, .v (.int .i64 (ls.length : Nat))), (13, .dsl 4 (ls.map lnL)), (4, .sl 1 0 (selI (crB n ls) i).length), (1, .ptr 0 0 0)], [(0, ⟨31, 2, false, [[.v (.int .i64 n), .dsl 4 (ls.map lnL)]]⟩), (1, ⟨2, 1, true, (selI (crB n ls) i).map inL⟩)], 2))
    (fun i => i ≤ ls.length) (fun i => ls.length - i) 0 (Nat.zero_le _) ⟨⟨lk_i rfl rfl, lk_i rfl (by simp), lk_d rfl rfl, lk_s rfl rfl rfl rfl, lk_r rfl rfl rfl, trivial⟩, by (repeat (refine ⟨by first | exact ⟨rfl, rfl, rfl⟩ | exact lkb rfl rfl rfl rfl rfl | exact lkn rfl rfl (by rfl) (by rfl) rfl, ?_⟩)); exact trivial, by rfl, pin_0⟩ ?_
  intro i hi
  have hlen := selI_len (crB n ls) i
  have hml : ((selI (crB n ls) i).map inL).length = (selI (crB n ls) i).length := List.length_map _
  by_cases c2 : i < ls.length
  · have b2 : decide ((i : Int) < (ls.length : Int)) = true := by simpa using c2
    have hrow2 : (ls.map lnL)[((i : Int)).toNat]? = some (lnL ls[i]) := by simp [c2]
    rw [lnL_eq] at hrow2
    ((repeat' (first
    | (show SQ _ _ _ _ _ _ _ _; first | apply sq_nil | (apply q_move; exact rfl; exact rfl) | (apply q_assign; exact rfl; exact rfl) | (apply q_fieldAddr; exact rfl; exact rfl; exact (ty rfl); iterate 4 exact rfl) | (apply q_lend; exact rfl; exact rfl; exact (ty rfl); exact rfl) | (apply q_lss; iterate 3 exact rfl) | (apply q_ixd; (iterate 3 exact rfl); exact (ty rfl); exact rfl; exact (by first | omega | (simp; done) | (simp; omega)); exact (by first | omega | (simp; done) | (simp; omega)); exact (by first | rfl | assumption)) | (apply q_ld1p; exact rfl; exact rfl; exact (ty rfl); exact rfl; exact rfl; exact (by first | rfl | assumption | ((try simp only [Nat.zero_add]); refine List.getElem?_set_self ?_; (try simp only [List.length_set]); assumption)); exact rfl))
    | (show SQ _ _ _ _ _ _ _ _; (first | (apply q_ldad; exact rfl; exact rfl; exact (ty rfl); exact rfl; exact rfl) | (apply q_alloc; exact rfl; exact (ty rfl); exact rfl; exact rfl) | (apply q_store; exact rfl; exact rfl; exact (ty rfl); exact rfl; exact (by first | rfl | assumption | ((try simp only [Nat.zero_add]); refine List.getElem?_set_self ?_; (try simp only [List.length_set]); assumption)); iterate 3 exact rfl)); (try simp only [put, rowsOf, plR, selE, ovr, setH, del, cellsA, splice, isV, spq, if_true, if_false]))
    | (show AW _ _ _ _ _ _ _ _; first | refine aw_region ?_ | (refine aw_seqk ?_; intro K hK) | refine aw_block ?_ | (apply aw_cond_t; exact rfl; exact (by assumption)) | refine aw_skip ?_)
    | refine thn_n ?_
    | (refine hK _ _ _ ?_; clear hK K))); all_goals (repeat (clear hK K)))
    refine aw_nil (t := 7) 2 1 rfl ?_
    refine aw_loop (ρ := id) (ι := Nat) (fun q => ([(23, .v (.int .i64 q)), (22, .v (.int .i64 (ls.length : Nat))), (15, .v (.int .i64 i)), (14, .v (.int .i64 (ls.length : Nat))), (13, .dsl 4 (ls.map lnL)), (7, .sl 3 0 (selI (fun j => ((j : Int) != (i : Int))) q).length), (6, .ptr 2 0 0), (5, .v (.int .i64 i)), (4, .sl 1 0 (selI (crB n ls) i).length), (1, .ptr 0 0 0)], [(0, ⟨31, 2, false, [[.v (.int .i64 n), .dsl 4 (ls.map lnL)]]⟩), (1, ⟨2, 1, true, (selI (crB n ls) i).map inL⟩), (2, ⟨56, 4, false, [[.v (.int .i64 ls[i].a), .v (.int .i64 ls[i].b), .v (.int .i64 ls[i].o), .v (.int .i64 ls[i].c)]]⟩), (3, ⟨2, 1, true, (selI (fun j => ((j : Int) != (i : Int))) q).map inL⟩)], 4))
      (fun q => q ≤ ls.length) (fun q => ls.length - q) 0 (Nat.zero_le _) ⟨⟨lk_i rfl rfl, lk_i rfl (by simp), lk_i rfl rfl, lk_i rfl rfl, lk_d rfl rfl, lk_s rfl rfl rfl rfl, lk_r rfl rfl rfl, lk_i rfl rfl, lk_s rfl rfl rfl rfl, lk_r rfl rfl rfl, trivial⟩, by (repeat (refine ⟨by first | exact ⟨rfl, rfl, rfl⟩ | exact lkb rfl rfl rfl rfl rfl | exact lkn rfl rfl (by rfl) (by rfl) rfl, ?_⟩)); exact trivial, by rfl, pin_0⟩ ?_
    intro q hq
    have hlen2 := selI_len (fun j => ((j : Int) != (i : Int))) q
    have hml2 : ((selI (fun j => ((j : Int) != (i : Int))) q).map inL).length = (selI (fun j => ((j : Int) != (i : Int))) q).length := List.length_map _
    by_cases c4 : q < ls.length
    · have b4 : decide ((q : Int) < (ls.length : Int)) = true := by simpa using c4
      have hw4 : IntKind.i64.wrap ((q : Int) + 1) = ((q + 1 : Nat) : Int) := by rw [IntWalk.i64_in _ (by omega)]; omega
      ((repeat' (first
    | (show SQ _ _ _ _ _ _ _ _; first | apply sq_nil | (apply q_move; exact rfl; exact rfl) | (apply q_assign; exact rfl; exact rfl) | (apply q_add; iterate 3 exact rfl) | (apply q_neq; iterate 3 exact rfl) | (apply q_lss; iterate 3 exact rfl))
    | (show SQ _ _ _ _ _ _ _ _; (first | (apply q_buildn; exact rfl; exact (ty rfl); iterate 7 exact rfl) | (apply q_apo_s; (iterate 3 exact rfl); exact (ty rfl); exact rfl; exact rfl; exact (by first | omega | (simp; done) | (simp; omega)); exact (by first | exact List.take_of_length_le (by first | omega | (simp; done) | (simp; omega)) | rfl); exact (ty rfl); exact rfl; exact rfl; exact (by first | omega | (simp; done) | (simp; omega)); exact (by first | exact dt_full (by first | omega | (simp; done) | (simp; omega)) | assumption | rfl); exact rfl; exact (by first | omega | (simp; done) | (simp; omega)); exact (by first | omega | (simp; done) | (simp; omega)); exact (by first | assumption | exact rfl))); (try simp only [put, rowsOf, plR, selE, ovr, setH, del, cellsA, splice, isV, spq, if_true, if_false]))
    | (show AW _ _ _ _ _ _ _ _; first | refine aw_region ?_ | (refine aw_seqk ?_; intro K hK) | refine aw_block ?_ | (apply aw_cond_t; exact rfl; exact (by assumption)) | refine aw_skip ?_ | (apply aw_ite; exact rfl; all_goals intro h))
    | refine thn_n ?_
    | (refine hK _ _ _ ?_; clear hK K)
    | refine inb_n ?_)); all_goals (repeat (clear hK K)))
      · have e1 := selI_yes (p := fun j => ((j : Int) != (i : Int))) (i := q) ‹_›
        refine ⟨q + 1, fun j => [0, 1, 2, 5].getD j 0, c4, by omega, ?_⟩
        (try dsimp only); rw [e1, List.map_append, List.length_append, ← hw4]
        exact ⟨by (repeat (refine ⟨by first | exact lk_i rfl rfl | exact lk_d rfl rfl | exact lk_r rfl rfl rfl | exact lk_s rfl rfl rfl rfl, ?_⟩)); exact trivial, by (repeat (refine ⟨by first | exact ⟨rfl, rfl, rfl⟩, ?_⟩)); exact trivial, by rfl, by exact pin_0⟩
      · have e1 := selI_no (p := fun j => ((j : Int) != (i : Int))) (i := q) ‹_›
        refine ⟨q + 1, id, c4, by omega, ?_⟩
        (try dsimp only); rw [e1, ← hw4]
        exact ⟨by (repeat (refine ⟨by first | exact lk_i rfl rfl | exact lk_d rfl rfl | exact lk_r rfl rfl rfl | exact lk_s rfl rfl rfl rfl, ?_⟩)); exact trivial, by (repeat (refine ⟨by first | exact ⟨rfl, rfl, rfl⟩, ?_⟩)); exact trivial, by rfl, by exact pin_0⟩
    · have b4 : decide ((q : Int) < (ls.length : Int)) = false := by simpa using c4
      obtain rfl : q = ls.length := by omega
      obtain ⟨a0, a1, d0, d1⟩ := hL ls[i] (List.getElem_mem c2)
      have hcr := crB_eq hL c2
      have hR := hRe (selI (fun j => ((j : Int) != (i : Int))) ls.length) ls[i].a (by omega) (fun x hx => selI_in hx) ⟨a0, a1⟩
      have hgd := ((reachV_spec (ix := selI (fun j => ((j : Int) != (i : Int))) ls.length) hL (fun x hx => selI_in hx) ⟨a0, a1⟩).1).le (by omega)
      generalize selI (fun j => ((j : Int) != (i : Int))) ls.length = ix at hlen2 hml2 hcr hR hgd ⊢
      generalize reachV n ls ix ls[i].a = rv at hcr hR hgd
      have hC := slContains_ro rv (rv.map inL) ls[i].b rfl (by omega)
      have hml3 : (rv.map inL).length = rv.length := List.length_map _
      have hw3 : IntKind.i64.wrap ((i : Int) + 1) = ((i + 1 : Nat) : Int) := by rw [IntWalk.i64_in _ (by omega)]; omega
      ((repeat' (first
    | (show SQ _ _ _ _ _ _ _ _; first | apply sq_nil | (apply q_move; exact rfl; exact rfl) | (apply q_assign; exact rfl; exact rfl) | (apply q_add; iterate 3 exact rfl) | (apply q_lss; iterate 3 exact rfl))
    | (show SQ _ _ _ _ _ _ _ _; (first | (apply q_buildn; exact rfl; exact (ty rfl); iterate 7 exact rfl) | (apply q_apo_s; (iterate 3 exact rfl); exact (ty rfl); exact rfl; exact rfl; exact (by first | omega | (simp; done) | (simp; omega)); exact (by first | exact List.take_of_length_le (by first | omega | (simp; done) | (simp; omega)) | rfl); exact (ty rfl); exact rfl; exact rfl; exact (by first | omega | (simp; done) | (simp; omega)); exact (by first | exact dt_full (by first | omega | (simp; done) | (simp; omega)) | assumption | rfl); exact rfl; exact (by first | omega | (simp; done) | (simp; omega)); exact (by first | omega | (simp; done) | (simp; omega)); exact (by first | assumption | exact rfl))); (try simp only [put, rowsOf, plR, selE, ovr, setH, del, cellsA, splice, isV, spq, if_true, if_false]))
    | (show DE _ _ _ _ _ _ _ _ _ _ _ _; first | (apply e_move; iterate 3 exact rfl) | (apply e_fieldAddr; exact rfl; exact rfl; exact (ty rfl); iterate 5 exact rfl) | (apply e_not; iterate 3 exact rfl) | (apply e_ld1p; exact rfl; exact rfl; exact (ty rfl); exact rfl; exact rfl; exact (by first | rfl | assumption | ((try simp only [Nat.zero_add]); refine List.getElem?_set_self ?_; (try simp only [List.length_set]); assumption)); exact rfl; exact rfl))
    | (show DE _ _ _ _ _ _ _ _ _ _ _ _; (first | (apply dr_nil; exact trivial) | (apply e_ldap; exact rfl; exact rfl; exact (ty rfl); exact rfl; exact rfl; exact (by first | rfl | assumption | ((try simp only [Nat.zero_add]); refine List.getElem?_set_self ?_; (try simp only [List.length_set]); assumption)); exact rfl; exact rfl) | (apply e_callU; (iterate 3 exact rfl); rotate_left; exact hR _; exact rfl; rotate_right; focus ((repeat' (first | exact FzL.nil | exact (by assumption : FzC _) _ | refine FzL.cons ?_ ?_ | exact Fz.of rfl | exact Fz.nil | exact Fz.emp | (apply Fz.fnC; assumption) | (apply Fz.sl2; exact rfl; exact (by first | omega | (simp; done) | (simp; omega)); first | exact rfl | exact dt_full (by first | omega | (simp; done) | (simp; omega)) | assumption) | apply Fz.agg | (apply Fz.ptrL; exact rfl; first | exact rfl | assumption) | apply Fz.fnL)); done)) | (apply e_callU; (iterate 3 exact rfl); rotate_left; exact hC _; exact rfl; rotate_right; focus ((repeat' (first | exact FzL.nil | exact (by assumption : FzC _) _ | refine FzL.cons ?_ ?_ | exact Fz.of rfl | exact Fz.nil | exact Fz.emp | (apply Fz.fnC; assumption) | (apply Fz.sl2; exact rfl; exact (by first | omega | (simp; done) | (simp; omega)); first | exact rfl | exact dt_full (by first | omega | (simp; done) | (simp; omega)) | assumption) | apply Fz.agg | (apply Fz.ptrL; exact rfl; first | exact rfl | assumption) | apply Fz.fnL)); done))); (try simp only [put, rowsOf, plR, selE, ovr, setH, del, cellsA, splice, isV, spq, if_true, if_false]))
    | (show AW _ _ _ _ _ _ _ _; first | refine aw_region ?_ | (refine aw_seqk ?_; intro K hK) | (apply aw_cond_f; exact rfl; exact (by assumption)) | refine aw_exit ?_ | refine aw_skip ?_ | refine aw_drawE (id := 14) [0, 0, 0, 4, 15, 0, 32, 127, 255] [1, 0, 0, 1, 1, 0, 1, 1, 0] mixed (by kernel_rfl) ?_ | (apply aw_ite; exact rfl; all_goals intro h))
    | refine thn_n ?_
    | (refine hK _ _ _ ?_; clear hK K)
    | refine thn_e ?_
    | refine inb_same ?_
    | refine inb_n ?_
    | (clear hK K; refine hK _ _ _ ?_; clear hK K))); all_goals (repeat (clear hK K)))
      · have e1 := selI_yes (hcr.symm.trans ‹_›)
        refine ⟨i + 1, fun j => [0, 6].getD j 0, c2, by omega, ?_⟩
        (try dsimp only); rw [e1, List.map_append, List.length_append, ← hw3]
        exact ⟨by (repeat (refine ⟨by first | exact lk_i rfl rfl | exact lk_d rfl rfl | exact lk_r rfl rfl rfl | exact lk_s rfl rfl rfl rfl, ?_⟩)); exact trivial, by (repeat (refine ⟨by first | exact ⟨rfl, rfl, rfl⟩, ?_⟩)); exact trivial, by rfl, by exact pin_0⟩
      · have e1 := selI_no (hcr.symm.trans ‹_›)
        refine ⟨i + 1, id, c2, by omega, ?_⟩
        (try dsimp only); rw [e1, ← hw3]
        exact ⟨by (repeat (refine ⟨by first | exact lk_i rfl rfl | exact lk_d rfl rfl | exact lk_r rfl rfl rfl | exact lk_s rfl rfl rfl rfl, ?_⟩)); exact trivial, by (repeat (refine ⟨by first | exact ⟨rfl, rfl, rfl⟩, ?_⟩)); exact trivial, by rfl, by exact pin_0⟩
  · have b2 : decide ((i : Int) < (ls.length : Int)) = false := by simpa using c2
    obtain rfl : i = ls.length := by omega
    ((repeat' (first
    | (show SQ _ _ _ _ _ _ _ _; first | apply sq_nil | (apply q_move; exact rfl; exact rfl) | (apply q_assign; exact rfl; exact rfl) | (apply q_lss; iterate 3 exact rfl))
    | (show AW _ _ _ _ _ _ _ _; first | refine aw_region ?_ | (refine aw_seqk ?_; intro K hK) | (apply aw_cond_f; exact rfl; exact (by assumption)) | refine aw_ret ?_ | refine aw_exit ?_)
    | refine thn_n ?_
    | (refine hK _ _ _ ?_; clear hK K)
    | refine thn_e ?_
    | refine inb_same ?_
    | (clear hK K; refine hK _ _ _ ?_; clear hK K))); all_goals (repeat (clear hK K)))
    exact fin_r (fin_m2 rfl rfl rfl _ _ rfl rfl rfl)
end Go.Proofs.Ytglfcaioapdiaaa.Bk

namespace Go.Proofs.Ytglfcaioapdiaaa.Bk
open Go Go.RowKit Go.Proofs.Ytglfcaioapdiaaa.Aw Go.Proofs.Ytglfcaioapdiaaa.Sr
set_option linter.unusedSimpArgs false
set_option linter.unusedVariables false
attribute [local irreducible] AW SQ Step RO RC DE Thn InB
def bt8 (bs : List Int) (k n : Int) : Int := if n ≤ 1 then 0 else if k < bs.length then bs.getD k.toNat 0 % n else (k * 37 + 11) % n
theorem bt8_bd (bs : List Int) (k n : Int) (hn : 1 ≤ n) : 0 ≤ bt8 bs k n ∧ bt8 bs k n < n := by
  unfold bt8
  split
  · omega
  · split <;> exact ⟨Int.emod_nonneg _ (by omega), Int.emod_lt_of_pos _ (by omega)⟩
set_option maxHeartbeats 4000000 in
theorem b10At_ro (bs : List Int) (hb : ∀ b ∈ bs, 0 ≤ b ∧ b ≤ 255) (hn : bs.length ≤ 9223372036854775807) (k n : Int) (hk : 0 ≤ k) (hk2 : k ≤ 1000000) (h1 : n ≤ 1000000000) (m : Nat) : RO Try.prog 39 [.dsl 1 (byL bs), .v (.int .i64 k), .v (.int .i64 n)] m (.v (.int .i64 (bt8 bs k n))) [] m := by
  have hl : (byL bs).length = bs.length := List.length_map _
  by_cases c1 : n ≤ 1
  · have b1 : decide (n ≤ 1) = true := by simpa using c1
    refine RO.ofv' Try.func39 Try.ntmps39 rfl (goFn_of Try.func39 rfl (by kernel_rfl)) rfl rfl ?_
    ((repeat' (first
    | (show SQ _ _ _ _ _ _ _ _; first | apply sq_nil | (apply q_move; exact rfl; exact rfl) | (apply q_assign; exact rfl; exact rfl) | (apply q_leq; iterate 3 exact rfl))
    | (show AW _ _ _ _ _ _ _ _; first | refine aw_region ?_ | (refine aw_seqk ?_; intro K hK) | (apply aw_cond_t; exact rfl; exact (by assumption)) | refine aw_ret ?_)
    | refine thn_n ?_
    | (refine hK _ _ _ ?_; clear hK K)
    | refine thn_r ?_)); all_goals (repeat (clear hK K)))
    all_goals refine fin_r (fin_i rfl ?_)
    rw [bt8, if_pos c1]
  · have b1 : decide (n ≤ 1) = false := by simpa using c1
    have hn0 : (n == 0) = false := by simp; omega
    by_cases c2 : k < bs.length
    · have b2 : decide (k < (((byL bs).length : Nat) : Int)) = true := by rw [hl]; simpa using c2
      obtain ⟨j, rfl⟩ := Int.eq_ofNat_of_zero_le hk
      have hj : j < bs.length := by omega
      have hrow : (byL bs)[((j : Int)).toNat]? = some [.v (.int .u8 bs[j])] := by simp [byL, hj]
      have hbd := hb bs[j] (List.getElem_mem hj)
      have w1 : IntKind.i64.wrap bs[j] = bs[j] := IntWalk.i64_in _ (by omega)
      have w3 : (bs[j]).tmod n = bs[j] % n := Int.tmod_eq_emod_of_nonneg (by omega)
      have w4 := Int.emod_lt_of_pos bs[j] (b := n) (by omega)
      have w5 := Int.emod_nonneg bs[j] (b := n) (by omega)
      have w6 : IntKind.i64.wrap (bs[j] % n) = bs[j] % n := IntWalk.i64_in _ (by omega)
      refine RO.ofv' Try.func39 Try.ntmps39 rfl (goFn_of Try.func39 rfl (by kernel_rfl)) rfl rfl ?_
      ((repeat' (first
    | (show SQ _ _ _ _ _ _ _ _; first | apply sq_nil | (apply q_move; exact rfl; exact rfl) | (apply q_assign; exact rfl; exact rfl) | (apply q_conv; exact rfl; exact rfl; exact (ty rfl); exact rfl; exact (ty rfl)) | (apply q_lend; exact rfl; exact rfl; exact (ty rfl); exact rfl) | (apply q_rem; (iterate 3 exact rfl); exact (by first | decide | omega)) | (apply q_lss; iterate 3 exact rfl) | (apply q_leq; iterate 3 exact rfl) | (apply q_ixd; (iterate 3 exact rfl); exact (ty rfl); exact rfl; exact (by first | omega | (simp; done) | (simp; omega)); exact (by first | omega | (simp; done) | (simp; omega)); exact (by first | rfl | assumption)) | (apply q_ld1d; exact rfl; exact rfl; exact (ty rfl); exact rfl; exact rfl))
    | (show AW _ _ _ _ _ _ _ _; first | refine aw_region ?_ | (refine aw_seqk ?_; intro K hK) | (apply aw_cond_t; exact rfl; exact (by assumption)) | (apply aw_cond_f; exact rfl; exact (by assumption)) | refine aw_ret ?_ | refine aw_skip ?_)
    | refine thn_n ?_
    | (refine hK _ _ _ ?_; clear hK K)
    | refine thn_r ?_)); all_goals (repeat (clear hK K)))
      all_goals refine fin_r (fin_i rfl ?_)
      rw [bt8, if_neg c1, if_pos c2]
      simp only [w1, w3, w6, Int.toNat_natCast]
      simp [hj]
    · have b2 : decide (k < (((byL bs).length : Nat) : Int)) = false := by rw [hl]; simpa using c2
      have w1 : IntKind.i64.wrap (k * 37) = k * 37 := IntWalk.i64_in _ (by omega)
      have w2 : IntKind.i64.wrap (k * 37 + 11) = k * 37 + 11 := IntWalk.i64_in _ (by omega)
      have w3 : (k * 37 + 11).tmod n = (k * 37 + 11) % n := Int.tmod_eq_emod_of_nonneg (by omega)
      have w4 := Int.emod_lt_of_pos (k * 37 + 11) (b := n) (by omega)
      have w5 := Int.emod_nonneg (k * 37 + 11) (b := n) (by omega)
      have w6 : IntKind.i64.wrap ((k * 37 + 11) % n) = (k * 37 + 11) % n := IntWalk.i64_in _ (by omega)
      refine RO.ofv' Try.func39 Try.ntmps39 rfl (goFn_of Try.func39 rfl (by kernel_rfl)) rfl rfl ?_
      ((repeat' (first
    | (show SQ _ _ _ _ _ _ _ _; first | apply sq_nil | (apply q_move; exact rfl; exact rfl) | (apply q_assign; exact rfl; exact rfl) | (apply q_lend; exact rfl; exact rfl; exact (ty rfl); exact rfl) | (apply q_add; iterate 3 exact rfl) | (apply q_mul; iterate 3 exact rfl) | (apply q_rem; (iterate 3 exact rfl); exact (by first | decide | omega)) | (apply q_lss; iterate 3 exact rfl) | (apply q_leq; iterate 3 exact rfl))
    | (show AW _ _ _ _ _ _ _ _; first | refine aw_region ?_ | (refine aw_seqk ?_; intro K hK) | (apply aw_cond_f; exact rfl; exact (by assumption)) | refine aw_ret ?_ | refine aw_skip ?_)
    | refine thn_n ?_
    | (refine hK _ _ _ ?_; clear hK K))); all_goals (repeat (clear hK K)))
      all_goals refine fin_r (fin_i rfl ?_)
      rw [bt8, if_neg c1, if_neg c2]
      simp only [w1, w2, w3, w6]
theorem wrap_add (a b : Int) : IntKind.i64.wrap (IntKind.i64.wrap a + b) = IntKind.i64.wrap (a + b) := by
  rw [IntKind.wrap_i64, IntKind.wrap_i64, IntKind.wrap_i64]; omega
theorem sumW_1 (d : List Int) (x : Nat) : sumW d (fun _ => 1) (x + 1) = sumW d (fun _ => 1) x + d.getD x 0 := by simp [sumW]
set_option maxHeartbeats 4000000 in
theorem b10Sum_ro (d : List Int) (hn : d.length ≤ 1048576) (k : Nat) : RO Try.prog 43 [.dsl 1 (d.map inL)] k (.v (.int .i64 (IntKind.i64.wrap (sumW d (fun _ => 1) d.length)))) [] k := by
  have hml : (d.map inL).length = d.length := List.length_map _
  have h0 : IntKind.i64.wrap (sumW d (fun _ => 1) 0) = 0 := IntWalk.i64_in _ (by simp [sumW])
  refine RO.ofv' Try.func43 Try.ntmps43 rfl (goFn_of Try.func43 rfl (by kernel_rfl)) rfl rfl ?_
  ((repeat' (first
    | (show SQ _ _ _ _ _ _ _ _; first | apply sq_nil | (apply q_assign; exact rfl; exact rfl))
    | (show AW _ _ _ _ _ _ _ _; first | refine aw_region ?_ | (refine aw_seqk ?_; intro K hK) | refine aw_block ?_)
    | refine thn_n ?_
    | (refine hK _ _ _ ?_; clear hK K))); all_goals (repeat (clear hK K)))
  refine aw_loop (ρ := id) (ι := Nat) (fun i => ([(4, .v (.int .i64 i)), (3, .v (.int .i64 (IntKind.i64.wrap (sumW d (fun _ => 1) i)))), (0, .dsl 1 (d.map inL))], [], 0))
    (fun i => i ≤ d.length) (fun i => d.length - i) 0 (Nat.zero_le _) (by rw [h0]; exact ⟨by (repeat (refine ⟨by first | exact lk_i rfl rfl | exact lk_d rfl rfl, ?_⟩)); exact trivial, by exact trivial, by rfl, by exact pin_0⟩) ?_
  intro i hi
  by_cases c1 : i < d.length
  · have b1 : decide ((i : Int) < ((d.map inL).length : Int)) = true := by simpa using c1
    have hrow : (d.map inL)[((i : Int)).toNat]? = some (inL (d.getD i 0)) := by simp [c1, List.getD]
    rw [inL_eq] at hrow
    have hw : IntKind.i64.wrap ((i : Int) + 1) = ((i + 1 : Nat) : Int) := by rw [IntWalk.i64_in _ (by omega)]; omega
    have hs := wrap_add (sumW d (fun _ => 1) i) (d.getD i 0)
    rw [← sumW_1] at hs
    ((repeat' (first
    | (show SQ _ _ _ _ _ _ _ _; first | apply sq_nil | (apply q_move; exact rfl; exact rfl) | (apply q_assign; exact rfl; exact rfl) | (apply q_lend; exact rfl; exact rfl; exact (ty rfl); exact rfl) | (apply q_add; iterate 3 exact rfl) | (apply q_lss; iterate 3 exact rfl) | (apply q_ixd; (iterate 3 exact rfl); exact (ty rfl); exact rfl; exact (by first | omega | (simp; done) | (simp; omega)); exact (by first | omega | (simp; done) | (simp; omega)); exact (by first | rfl | assumption)) | (apply q_ld1d; exact rfl; exact rfl; exact (ty rfl); exact rfl; exact rfl))
    | (show AW _ _ _ _ _ _ _ _; first | refine aw_region ?_ | (refine aw_seqk ?_; intro K hK) | refine aw_block ?_ | (apply aw_cond_t; exact rfl; exact (by assumption)) | refine aw_skip ?_)
    | refine thn_n ?_
    | (refine hK _ _ _ ?_; clear hK K)
    | refine inb_n ?_)); all_goals (repeat (clear hK K)))
    all_goals (refine ⟨i + 1, id, c1, by omega, ?_⟩; (try dsimp only); rw [← hw, ← hs]; exact ⟨by (repeat (refine ⟨by first | exact lk_i rfl rfl | exact lk_d rfl rfl, ?_⟩)); exact trivial, by exact trivial, by rfl, by exact pin_0⟩)
  · have b1 : decide ((i : Int) < ((d.map inL).length : Int)) = false := by simpa using c1
    obtain rfl : i = d.length := by omega
    ((repeat' (first
    | (show SQ _ _ _ _ _ _ _ _; first | apply sq_nil | (apply q_move; exact rfl; exact rfl) | (apply q_assign; exact rfl; exact rfl) | (apply q_lend; exact rfl; exact rfl; exact (ty rfl); exact rfl) | (apply q_lss; iterate 3 exact rfl))
    | (show AW _ _ _ _ _ _ _ _; first | refine aw_region ?_ | (refine aw_seqk ?_; intro K hK) | (apply aw_cond_f; exact rfl; exact (by assumption)) | refine aw_ret ?_ | refine aw_exit ?_)
    | refine thn_n ?_
    | (refine hK _ _ _ ?_; clear hK K)
    | refine thn_e ?_
    | refine inb_same ?_
    | (clear hK K; refine hK _ _ _ ?_; clear hK K))); all_goals (repeat (clear hK K)))
    all_goals exact fin_r (fin_i rfl rfl)
end Go.Proofs.Ytglfcaioapdiaaa.Bk

namespace Go.Proofs.Ytglfcaioapdiaaa.Bk
open Go Go.RowKit Go.Proofs.Ytglfcaioapdiaaa.Aw Go.Proofs.Ytglfcaioapdiaaa.Sr
set_option linter.unusedSimpArgs false
set_option linter.unusedVariables false
attribute [local irreducible] AW SQ Step RO RC DE Thn InB
def othP (T : List Int) (o x : Int) (j : Nat) : Bool := ((j : Int) != o) && ((T.any fun y => y == (j : Int)) || ((j : Int) == x))
theorem trees_none (cs ms : List Int) (hm : ∀ b ∈ ms, 0 ≤ b ∧ b ≤ 255) (hc0 : cs.length ≤ 1048576) (hm0 : ms.length ≤ 1048576) {n root : Int} {ls : List Ln} {zs d T C : List Int} (hle : ls.length ≤ 32) (hdl : d.length ≤ 200)
    (hD : ∀ k, RC Try.prog 40 [.dsl 1 (byL cs)] [] k (.tup [.agg [.v (.int .i64 n), .sl k 0 ls.length], .dsl 1 (zs.map inL), .v (.int .i64 root), .sl (k + 1) 0 d.length]) [(k, some ⟨56, 4, true, ls.map lnL⟩), (k + 1, some ⟨2, 1, true, d.map inL⟩)] (k + 2))
    (hS : ∀ k, RO Try.prog 31 [.agg (bkL n ls)] k (.tup [.sl k 0 T.length, .v (.int .i64 0)]) [(k, ⟨2, 1, true, T.map inL⟩)] (k + 1))
    (hT : ∀ k, RO Try.prog 41 [.agg (bkL n ls), .dsl 1 (T.map inL)] k (.v (.bool true)) [] k)
    (hC : ∀ k, RO Try.prog 42 [.agg (bkL n ls)] k (.tup [.sl k 0 C.length, .v (.int .i64 0)]) [(k, ⟨2, 1, true, C.map inL⟩)] (k + 1))
    (hTl : T.length ≤ ls.length) (hTr : ∀ x ∈ T, 0 ≤ x ∧ x < ls.length) (hCl : C.length ≤ ls.length) (hCT : ∀ i, (h : i < C.length) → (T.any fun y => y == C[i]) = true) (hLo : (∃ e : Int, e ≠ 0 ∧ ∀ k, RO Try.prog 27 [.agg (bkL n ls), .dsl 1 (T.map inL), .v (.int .i64 root), .dsl 1 (d.map inL)] k (.tup [.v (.slice none 0 0), .v (.int .i64 e)]) [] k) ∨ (∃ ld : List Int, ld.length = ls.length ∧ (d.length : Int) = n ∧ (0 ≤ root ∧ root < n) ∧ IntKind.i64.wrap (d.getD root.toNat 0) = d.getD root.toNat 0 ∧ sumR ls root d ld ls.length = sumW d (fun _ => 1) d.length ∧ ∀ k, RO Try.prog 27 [.agg (bkL n ls), .dsl 1 (T.map inL), .v (.int .i64 root), .dsl 1 (d.map inL)] k (.tup [.sl k 0 ls.length, .v (.int .i64 0)]) [(k, ⟨2, 1, true, ld.map inL⟩)] (k + 1))) (ht : T.length = 0)
    (k : Nat) : RO Try.prog 11 [.dsl 1 (byL cs), .dsl 1 (byL ms)] k (.v (.bool true)) [] k := by
  have hLong := b10Long_ro cs
  have hLong2 := b10Long_ro ms
  rw [decide_eq_false (show ¬ (1048576 < (cs.length : Int)) by omega)] at hLong
  rw [decide_eq_false (show ¬ (1048576 < (ms.length : Int)) by omega)] at hLong2
  have hli : (ls.map lnL).length = ls.length := List.length_map _
  have hdm : (d.map inL).length = d.length := List.length_map _
  have hTm : (T.map inL).length = T.length := List.length_map _
  have z0 : ((0 : Int) != 0) = false := rfl
  have hH := fun x => b10Has_ro T x (by omega)
  unfold bkL at hS hT hC hLo
  refine RO.ofv' Try.func11 Try.ntmps11 rfl (goFn_of Try.func11 rfl (by kernel_rfl)) rfl rfl ?_
  ((repeat' (first
    | (show SQ _ _ _ _ _ _ _ _; first | apply sq_nil | (apply q_move; exact rfl; exact rfl) | (apply q_assign; exact rfl; exact rfl) | (apply q_pick_f; (iterate 3 exact rfl); exact (by first | assumption | exact rfl)) | (apply q_not; exact rfl; exact rfl) | (apply q_ext; iterate 3 exact rfl) | (apply q_neq; iterate 3 exact rfl) | (apply q_g; (iterate 3 exact rfl); exact (by assumption)))
    | (show SQ _ _ _ _ _ _ _ _; (first | (apply q_ldap; exact rfl; exact rfl; exact (ty rfl); exact rfl; exact rfl; exact (by first | rfl | assumption | ((try simp only [Nat.zero_add]); refine List.getElem?_set_self ?_; (try simp only [List.length_set]); assumption)); exact rfl) | (apply q_alloc; exact rfl; exact (ty rfl); exact rfl; exact rfl) | (apply q_store; exact rfl; exact rfl; exact (ty rfl); exact rfl; exact (by first | rfl | assumption | ((try simp only [Nat.zero_add]); refine List.getElem?_set_self ?_; (try simp only [List.length_set]); assumption)); iterate 3 exact rfl) | (apply q_callU; (iterate 3 exact rfl); exact FzL.of rfl; exact hLong _) | (apply q_callU; (iterate 3 exact rfl); exact FzL.of rfl; exact hLong2 _) | (apply q_callU; (iterate 3 exact rfl); rotate_left; exact hS _; rotate_right; focus ((repeat' (first | exact FzL.nil | exact (by assumption : FzC _) _ | refine FzL.cons ?_ ?_ | exact Fz.of rfl | exact Fz.nil | exact Fz.emp | (apply Fz.fnC; assumption) | (apply Fz.sl2; exact rfl; exact (by first | omega | (simp; done) | (simp; omega)); first | exact rfl | exact dt_full (by first | omega | (simp; done) | (simp; omega)) | assumption) | apply Fz.agg | (apply Fz.ptrL; exact rfl; first | exact rfl | assumption) | apply Fz.fnL)); done)) | (apply q_callU; (iterate 3 exact rfl); rotate_left; exact hT _; rotate_right; focus ((repeat' (first | exact FzL.nil | exact (by assumption : FzC _) _ | refine FzL.cons ?_ ?_ | exact Fz.of rfl | exact Fz.nil | exact Fz.emp | (apply Fz.fnC; assumption) | (apply Fz.sl2; exact rfl; exact (by first | omega | (simp; done) | (simp; omega)); first | exact rfl | exact dt_full (by first | omega | (simp; done) | (simp; omega)) | assumption) | apply Fz.agg | (apply Fz.ptrL; exact rfl; first | exact rfl | assumption) | apply Fz.fnL)); done)) | (apply q_callU; (iterate 3 exact rfl); rotate_left; exact hC _; rotate_right; focus ((repeat' (first | exact FzL.nil | exact (by assumption : FzC _) _ | refine FzL.cons ?_ ?_ | exact Fz.of rfl | exact Fz.nil | exact Fz.emp | (apply Fz.fnC; assumption) | (apply Fz.sl2; exact rfl; exact (by first | omega | (simp; done) | (simp; omega)); first | exact rfl | exact dt_full (by first | omega | (simp; done) | (simp; omega)) | assumption) | apply Fz.agg | (apply Fz.ptrL; exact rfl; first | exact rfl | assumption) | apply Fz.fnL)); done)) | (apply q_callC; (iterate 3 exact rfl); exact hD _; (focus ((repeat (first | exact trivial | refine ⟨by first | exact rfl | assumption, ?_⟩)); done)); skip)); (try simp only [put, rowsOf, plR, selE, ovr, setH, del, cellsA, splice, isV, spq, if_true, if_false]))
    | (show AW _ _ _ _ _ _ _ _; first | refine aw_region ?_ | (refine aw_seqk ?_; intro K hK) | refine aw_block ?_ | (apply aw_cond_f; exact rfl; exact rfl) | refine aw_skip ?_)
    | refine thn_n ?_
    | (refine hK _ _ _ ?_; clear hK K))); all_goals (repeat (clear hK K)))
  refine aw_loop (ρ := fun z => z) (ι := Nat) (fun i => ([(13, .v (.int .i64 i)), (11, .sl 4 0 C.length), (9, .sl 3 0 T.length), (8, .sl 1 0 d.length), (7, .v (.int .i64 root)), (5, .ptr 2 0 0), (1, .dsl 1 (byL ms))],
      [(0, ⟨56, 4, true, ls.map lnL⟩), (1, ⟨2, 1, true, d.map inL⟩), (2, ⟨31, 2, false, [[.v (.int .i64 n), .sl 0 0 ls.length]]⟩), (3, ⟨2, 1, true, T.map inL⟩), (4, ⟨2, 1, true, C.map inL⟩)], 5))
    (fun i => i ≤ C.length) (fun i => C.length - i) 0 (Nat.zero_le _) ⟨by (repeat (refine ⟨by first | exact lk_i rfl rfl | exact lk_d rfl rfl | exact lk_r rfl rfl rfl | exact lk_s rfl rfl rfl rfl, ?_⟩)); exact trivial, by (repeat (refine ⟨by first | exact ⟨rfl, rfl, rfl⟩, ?_⟩)); exact trivial, by rfl, by exact pin_0⟩ ?_
  intro i hi
  by_cases d1 : i < C.length
  · have f1 : decide ((i : Int) < (C.length : Int)) = true := by simpa using d1
    have hrow : (C.map inL)[0 + ((i : Int)).toNat]? = some (inL C[i]) := by simp [d1]
    rw [inL_eq] at hrow
    have hh := hH C[i]
    rw [hCT i d1] at hh
    have hw : IntKind.i64.wrap ((i : Int) + 1) = ((i + 1 : Nat) : Int) := by rw [IntWalk.i64_in _ (by omega)]; omega
    ((repeat' (first
    | (show SQ _ _ _ _ _ _ _ _; first | apply sq_nil | (apply q_move; exact rfl; exact rfl) | (apply q_assign; exact rfl; exact rfl) | (apply q_not; exact rfl; exact rfl) | (apply q_lenl; exact rfl; exact rfl; exact (ty rfl); exact rfl) | (apply q_add; iterate 3 exact rfl) | (apply q_lss; iterate 3 exact rfl) | (apply q_ixl; (iterate 3 exact rfl); exact (ty rfl); (iterate 3 exact rfl); exact (by first | omega | (simp; done) | (simp; omega)); exact (by first | omega | (simp; done) | (simp; omega))) | (apply q_ld1p; exact rfl; exact rfl; exact (ty rfl); exact rfl; exact rfl; exact (by first | rfl | assumption | ((try simp only [Nat.zero_add]); refine List.getElem?_set_self ?_; (try simp only [List.length_set]); assumption)); exact rfl))
    | (show SQ _ _ _ _ _ _ _ _; (first | (apply q_callU; (iterate 3 exact rfl); rotate_left; exact hh _; rotate_right; focus ((repeat' (first | exact FzL.nil | exact (by assumption : FzC _) _ | refine FzL.cons ?_ ?_ | exact Fz.of rfl | exact Fz.nil | exact Fz.emp | (apply Fz.fnC; assumption) | (apply Fz.sl2; exact rfl; exact (by first | omega | (simp; done) | (simp; omega)); first | exact rfl | exact dt_full (by first | omega | (simp; done) | (simp; omega)) | assumption) | apply Fz.agg | (apply Fz.ptrL; exact rfl; first | exact rfl | assumption) | apply Fz.fnL)); done))); (try simp only [put, rowsOf, plR, selE, ovr, setH, del, cellsA, splice, isV, spq, if_true, if_false]))
    | (show AW _ _ _ _ _ _ _ _; first | refine aw_region ?_ | (refine aw_seqk ?_; intro K hK) | refine aw_block ?_ | (apply aw_cond_f; exact rfl; exact rfl) | (apply aw_cond_t; exact rfl; exact (by assumption)) | refine aw_skip ?_)
    | refine thn_n ?_
    | (refine hK _ _ _ ?_; clear hK K)
    | refine inb_n ?_)); all_goals (repeat (clear hK K)))
    all_goals (refine ⟨i + 1, fun z => z, d1, by omega, ?_⟩; (try dsimp only); rw [← hw]; exact ⟨by (repeat (refine ⟨by first | exact lk_i rfl rfl | exact lk_d rfl rfl | exact lk_r rfl rfl rfl | exact lk_s rfl rfl rfl rfl, ?_⟩)); exact trivial, by (repeat (refine ⟨by first | exact ⟨rfl, rfl, rfl⟩, ?_⟩)); exact trivial, by rfl, by exact pin_0⟩)
  have f1 : decide ((i : Int) < (C.length : Int)) = false := by simpa using d1
  have f2 : decide ((0 : Int) < (T.length : Int)) = false := by rw [decide_eq_false_iff_not]; omega
  rcases hLo with ⟨e, he, hLo⟩ | ⟨ld, hld, hd, hr, hw0, hsum, hLo⟩
  · have b1 : (e != 0) = true := by simpa using he
    ((repeat' (first
    | (show SQ _ _ _ _ _ _ _ _; first | apply sq_nil | (apply q_move; exact rfl; exact rfl) | (apply q_assign; exact rfl; exact rfl) | (apply q_fieldAddr; exact rfl; exact rfl; exact (ty rfl); iterate 4 exact rfl) | (apply q_ext; iterate 3 exact rfl) | (apply q_lenl; exact rfl; exact rfl; exact (ty rfl); exact rfl) | (apply q_lenn; exact rfl; exact rfl; exact (ty rfl); exact rfl) | (apply q_eql; iterate 3 exact rfl) | (apply q_neq; iterate 3 exact rfl) | (apply q_lss; iterate 3 exact rfl) | (apply q_gtr; iterate 3 exact rfl) | (apply q_ld1p; exact rfl; exact rfl; exact (ty rfl); exact rfl; exact rfl; exact (by first | rfl | assumption | ((try simp only [Nat.zero_add]); refine List.getElem?_set_self ?_; (try simp only [List.length_set]); assumption)); exact rfl))
    | (show SQ _ _ _ _ _ _ _ _; (first | (apply q_ldap; exact rfl; exact rfl; exact (ty rfl); exact rfl; exact rfl; exact (by first | rfl | assumption | ((try simp only [Nat.zero_add]); refine List.getElem?_set_self ?_; (try simp only [List.length_set]); assumption)); exact rfl) | (apply q_callU; (iterate 3 exact rfl); rotate_left; exact hLo _; rotate_right; focus ((repeat' (first | exact FzL.nil | exact (by assumption : FzC _) _ | refine FzL.cons ?_ ?_ | exact Fz.of rfl | exact Fz.nil | exact Fz.emp | (apply Fz.fnC; assumption) | (apply Fz.sl2; exact rfl; exact (by first | omega | (simp; done) | (simp; omega)); first | exact rfl | exact dt_full (by first | omega | (simp; done) | (simp; omega)) | assumption) | apply Fz.agg | (apply Fz.ptrL; exact rfl; first | exact rfl | assumption) | apply Fz.fnL)); done))); (try simp only [put, rowsOf, plR, selE, ovr, setH, del, cellsA, splice, isV, spq, if_true, if_false]))
    | (show AW _ _ _ _ _ _ _ _; first | refine aw_region ?_ | (refine aw_seqk ?_; intro K hK) | (apply aw_cond_t; exact rfl; exact (by assumption)) | (apply aw_cond_f; exact rfl; exact (by assumption)) | refine aw_ret ?_ | refine aw_exit ?_ | refine aw_skip ?_)
    | refine thn_n ?_
    | (refine hK _ _ _ ?_; clear hK K)
    | refine thn_e ?_
    | refine thn_r ?_
    | refine inb_same ?_
    | (clear hK K; refine hK _ _ _ ?_; clear hK K))); all_goals (repeat (clear hK K)))
    all_goals exact fin_r (fin_b rfl rfl)
  · obtain ⟨r0, rfl⟩ : ∃ r0 : Nat, root = r0 := ⟨root.toNat, by omega⟩
    have hrd : r0 < d.length := by omega
    have hrow3 : (d.map inL)[0 + ((r0 : Int)).toNat]? = some (inL (d.getD r0 0)) := by simp [hrd, List.getD]
    rw [inL_eq] at hrow3
    have b2 : ((ls.length : Int) != (ls.length : Int)) = false := by simp
    have b3 : ((d.length : Int) != n) = false := by simpa using hd
    have b4 : decide ((r0 : Int) < 0) = false := by rw [decide_eq_false_iff_not]; omega
    have b5 : decide ((r0 : Int) ≥ n) = false := by simp; omega
    have hSm := b10Sum_ro d (by omega)
    have hldm : (ld.map inL).length = ls.length := by rw [List.length_map, hld]
    rw [Int.toNat_natCast] at hw0
    ((repeat' (first
    | (show SQ _ _ _ _ _ _ _ _; first | apply sq_nil | (apply q_move; exact rfl; exact rfl) | (apply q_assign; exact rfl; exact rfl) | (apply q_pick_f; (iterate 3 exact rfl); exact (by first | assumption | exact rfl)) | (apply q_fieldAddr; exact rfl; exact rfl; exact (ty rfl); iterate 4 exact rfl) | (apply q_ext; iterate 3 exact rfl) | (apply q_lenl; exact rfl; exact rfl; exact (ty rfl); exact rfl) | (apply q_neq; iterate 3 exact rfl) | (apply q_lss; iterate 3 exact rfl) | (apply q_gtr; iterate 3 exact rfl) | (apply q_geq; iterate 3 exact rfl) | (apply q_ixl; (iterate 3 exact rfl); exact (ty rfl); (iterate 3 exact rfl); exact (by first | omega | (simp; done) | (simp; omega)); exact (by first | omega | (simp; done) | (simp; omega))) | (apply q_ld1p; exact rfl; exact rfl; exact (ty rfl); exact rfl; exact rfl; exact (by first | rfl | assumption | ((try simp only [Nat.zero_add]); refine List.getElem?_set_self ?_; (try simp only [List.length_set]); assumption)); exact rfl) | (apply q_g; (iterate 3 exact rfl); exact (by assumption)))
    | (show SQ _ _ _ _ _ _ _ _; (first | (apply q_ldap; exact rfl; exact rfl; exact (ty rfl); exact rfl; exact rfl; exact (by first | rfl | assumption | ((try simp only [Nat.zero_add]); refine List.getElem?_set_self ?_; (try simp only [List.length_set]); assumption)); exact rfl) | (apply q_callU; (iterate 3 exact rfl); rotate_left; exact hLo _; rotate_right; focus ((repeat' (first | exact FzL.nil | exact (by assumption : FzC _) _ | refine FzL.cons ?_ ?_ | exact Fz.of rfl | exact Fz.nil | exact Fz.emp | (apply Fz.fnC; assumption) | (apply Fz.sl2; exact rfl; exact (by first | omega | (simp; done) | (simp; omega)); first | exact rfl | exact dt_full (by first | omega | (simp; done) | (simp; omega)) | assumption) | apply Fz.agg | (apply Fz.ptrL; exact rfl; first | exact rfl | assumption) | apply Fz.fnL)); done))); (try simp only [put, rowsOf, plR, selE, ovr, setH, del, cellsA, splice, isV, spq, if_true, if_false]))
    | (show AW _ _ _ _ _ _ _ _; first | refine aw_region ?_ | (refine aw_seqk ?_; intro K hK) | refine aw_block ?_ | (apply aw_cond_f; exact rfl; exact rfl) | (apply aw_cond_f; exact rfl; exact (by assumption)) | refine aw_exit ?_ | refine aw_skip ?_)
    | refine thn_n ?_
    | (refine hK _ _ _ ?_; clear hK K)
    | refine thn_e ?_
    | refine inb_same ?_
    | (clear hK K; refine hK _ _ _ ?_; clear hK K))); all_goals (repeat (clear hK K)))
    refine aw_loop (ρ := fun z => if z = 3 then 5 else z) (ι := Nat) (fun i => ([(22, .v (.int .i64 i)), (21, .v (.int .i64 (IntKind.i64.wrap (sumR ls (r0 : Int) d ld i)))), (19, .sl 3 0 ls.length), (8, .sl 1 0 d.length), (7, .v (.int .i64 (r0 : Int))), (5, .ptr 2 0 0)],
        [(0, ⟨56, 4, true, ls.map lnL⟩), (1, ⟨2, 1, true, d.map inL⟩), (2, ⟨31, 2, false, [[.v (.int .i64 n), .sl 0 0 ls.length]]⟩), (3, ⟨2, 1, true, ld.map inL⟩)], 4))
      (fun i => i ≤ ls.length) (fun i => ls.length - i) 0 (Nat.zero_le _) (by rw [show IntKind.i64.wrap (sumR ls (r0 : Int) d ld 0) = d.getD r0 0 from hw0]; exact ⟨by (repeat (refine ⟨by first | exact lk_i rfl rfl | exact lk_r rfl rfl rfl | exact lk_s rfl rfl rfl rfl, ?_⟩)); exact trivial, by (repeat (refine ⟨by first | exact ⟨rfl, rfl, rfl⟩, ?_⟩)); exact trivial, by rfl, by exact pin_0⟩) ?_
    intro j hj
    by_cases d4 : j < ls.length
    · have f4 : decide ((j : Int) < (ls.length : Int)) = true := by simpa using d4
      have hw : IntKind.i64.wrap ((j : Int) + 1) = ((j + 1 : Nat) : Int) := by rw [IntWalk.i64_in _ (by omega)]; omega
      have hrow4 : (ls.map lnL)[0 + ((j : Int)).toNat]? = some (lnL (ls.getD j lnz)) := by simp [d4, List.getD]
      have hrow5 : (ld.map inL)[0 + ((j : Int)).toNat]? = some (inL (ld.getD j 0)) := by simp [List.getD, hld, d4]
      rw [inL_eq] at hrow5
      have hs := wrap_add (sumR ls (r0 : Int) d ld j) (ld.getD j 0)
      have hs1 : sumR ls (r0 : Int) d ld (j + 1) = if adjB (r0 : Int) (ls.getD j lnz) = true then sumR ls (r0 : Int) d ld j + ld.getD j 0 else sumR ls (r0 : Int) d ld j := rfl
      unfold adjB at hs1
      generalize ls.getD j lnz = l at *
      cases p1 : (l.a == (r0 : Int)) with
      | true =>
        rw [p1, Bool.true_or, if_pos rfl] at hs1
        ((repeat' (first
    | (show SQ _ _ _ _ _ _ _ _; first | apply sq_nil | (apply q_move; exact rfl; exact rfl) | (apply q_assign; exact rfl; exact rfl) | (apply q_pick_t; (iterate 3 exact rfl); exact (by first | assumption | exact rfl)) | (apply q_fieldAddr; exact rfl; exact rfl; exact (ty rfl); iterate 4 exact rfl) | (apply q_lenl; exact rfl; exact rfl; exact (ty rfl); exact rfl) | (apply q_add; iterate 3 exact rfl) | (apply q_eql; iterate 3 exact rfl) | (apply q_lss; iterate 3 exact rfl) | (apply q_ixl; (iterate 3 exact rfl); exact (ty rfl); (iterate 3 exact rfl); exact (by first | omega | (simp; done) | (simp; omega)); exact (by first | omega | (simp; done) | (simp; omega))) | (apply q_ld1p; exact rfl; exact rfl; exact (ty rfl); exact rfl; exact rfl; exact (by first | rfl | assumption | ((try simp only [Nat.zero_add]); refine List.getElem?_set_self ?_; (try simp only [List.length_set]); assumption)); exact rfl) | (apply q_s; (iterate 3 exact rfl); exact (by assumption); exact rfl))
    | (show AW _ _ _ _ _ _ _ _; first | refine aw_region ?_ | (refine aw_seqk ?_; intro K hK) | refine aw_block ?_ | (apply aw_cond_t; exact rfl; exact rfl) | (apply aw_cond_t; exact rfl; exact (by assumption)) | refine aw_skip ?_)
    | refine thn_n ?_
    | (refine hK _ _ _ ?_; clear hK K)
    | refine inb_n ?_)); all_goals (repeat (clear hK K)))
        all_goals (refine ⟨j + 1, fun z => z, d4, by omega, ?_⟩; (try dsimp only); rw [hs1, ← hs, ← hw]; exact ⟨by (repeat (refine ⟨by first | exact lk_i rfl rfl | exact lk_r rfl rfl rfl | exact lk_s rfl rfl rfl rfl, ?_⟩)); exact trivial, by (repeat (refine ⟨by first | exact ⟨rfl, rfl, rfl⟩, ?_⟩)); exact trivial, by rfl, by exact pin_0⟩)
      | false =>
        cases p2 : (l.b == (r0 : Int)) with
        | true =>
          rw [p1, p2, Bool.false_or, if_pos rfl] at hs1
          ((repeat' (first
    | (show SQ _ _ _ _ _ _ _ _; first | apply sq_nil | (apply q_move; exact rfl; exact rfl) | (apply q_assign; exact rfl; exact rfl) | (apply q_pick_f; (iterate 3 exact rfl); exact (by first | assumption | exact rfl)) | (apply q_fieldAddr; exact rfl; exact rfl; exact (ty rfl); iterate 4 exact rfl) | (apply q_lenl; exact rfl; exact rfl; exact (ty rfl); exact rfl) | (apply q_add; iterate 3 exact rfl) | (apply q_eql; iterate 3 exact rfl) | (apply q_lss; iterate 3 exact rfl) | (apply q_ixl; (iterate 3 exact rfl); exact (ty rfl); (iterate 3 exact rfl); exact (by first | omega | (simp; done) | (simp; omega)); exact (by first | omega | (simp; done) | (simp; omega))) | (apply q_ld1p; exact rfl; exact rfl; exact (ty rfl); exact rfl; exact rfl; exact (by first | rfl | assumption | ((try simp only [Nat.zero_add]); refine List.getElem?_set_self ?_; (try simp only [List.length_set]); assumption)); exact rfl) | (apply q_g; (iterate 3 exact rfl); exact (by assumption)))
    | (show AW _ _ _ _ _ _ _ _; first | refine aw_region ?_ | (refine aw_seqk ?_; intro K hK) | refine aw_block ?_ | (apply aw_cond_t; exact rfl; exact (by assumption)) | refine aw_skip ?_)
    | refine thn_n ?_
    | (refine hK _ _ _ ?_; clear hK K)
    | refine inb_n ?_)); all_goals (repeat (clear hK K)))
          all_goals (refine ⟨j + 1, fun z => z, d4, by omega, ?_⟩; (try dsimp only); rw [hs1, ← hs, ← hw]; exact ⟨by (repeat (refine ⟨by first | exact lk_i rfl rfl | exact lk_r rfl rfl rfl | exact lk_s rfl rfl rfl rfl, ?_⟩)); exact trivial, by (repeat (refine ⟨by first | exact ⟨rfl, rfl, rfl⟩, ?_⟩)); exact trivial, by rfl, by exact pin_0⟩)
        | false =>
          rw [p1, p2, Bool.false_or, if_neg (by simp)] at hs1
          ((repeat' (first
    | (show SQ _ _ _ _ _ _ _ _; first | apply sq_nil | (apply q_move; exact rfl; exact rfl) | (apply q_assign; exact rfl; exact rfl) | (apply q_pick_f; (iterate 3 exact rfl); exact (by first | assumption | exact rfl)) | (apply q_fieldAddr; exact rfl; exact rfl; exact (ty rfl); iterate 4 exact rfl) | (apply q_lenl; exact rfl; exact rfl; exact (ty rfl); exact rfl) | (apply q_add; iterate 3 exact rfl) | (apply q_eql; iterate 3 exact rfl) | (apply q_lss; iterate 3 exact rfl) | (apply q_ixl; (iterate 3 exact rfl); exact (ty rfl); (iterate 3 exact rfl); exact (by first | omega | (simp; done) | (simp; omega)); exact (by first | omega | (simp; done) | (simp; omega))) | (apply q_ld1p; exact rfl; exact rfl; exact (ty rfl); exact rfl; exact rfl; exact (by first | rfl | assumption | ((try simp only [Nat.zero_add]); refine List.getElem?_set_self ?_; (try simp only [List.length_set]); assumption)); exact rfl) | (apply q_g; (iterate 3 exact rfl); exact (by assumption)))
    | (show AW _ _ _ _ _ _ _ _; first | refine aw_region ?_ | (refine aw_seqk ?_; intro K hK) | refine aw_block ?_ | (apply aw_cond_t; exact rfl; exact (by assumption)) | (apply aw_cond_f; exact rfl; exact (by assumption)) | refine aw_skip ?_)
    | refine thn_n ?_
    | (refine hK _ _ _ ?_; clear hK K)
    | refine inb_n ?_)); all_goals (repeat (clear hK K)))
          all_goals (refine ⟨j + 1, fun z => z, d4, by omega, ?_⟩; (try dsimp only); rw [hs1, ← hw]; exact ⟨by (repeat (refine ⟨by first | exact lk_i rfl rfl | exact lk_r rfl rfl rfl | exact lk_s rfl rfl rfl rfl, ?_⟩)); exact trivial, by (repeat (refine ⟨by first | exact ⟨rfl, rfl, rfl⟩, ?_⟩)); exact trivial, by rfl, by exact pin_0⟩)
    · have f4 : decide ((j : Int) < (ls.length : Int)) = false := by simpa using d4
      obtain rfl : j = ls.length := by omega
      rw [hsum]
      ((repeat' (first
    | (show SQ _ _ _ _ _ _ _ _; first | apply sq_nil | (apply q_move; exact rfl; exact rfl) | (apply q_assign; exact rfl; exact rfl) | (apply q_lenl; exact rfl; exact rfl; exact (ty rfl); exact rfl) | (apply q_eql; iterate 3 exact rfl) | (apply q_lss; iterate 3 exact rfl))
    | (show SQ _ _ _ _ _ _ _ _; (first | (apply q_callU; (iterate 3 exact rfl); rotate_left; exact hSm _; rotate_right; focus ((repeat' (first | exact FzL.nil | exact (by assumption : FzC _) _ | refine FzL.cons ?_ ?_ | exact Fz.of rfl | exact Fz.nil | exact Fz.emp | (apply Fz.fnC; assumption) | (apply Fz.sl2; exact rfl; exact (by first | omega | (simp; done) | (simp; omega)); first | exact rfl | exact dt_full (by first | omega | (simp; done) | (simp; omega)) | assumption) | apply Fz.agg | (apply Fz.ptrL; exact rfl; first | exact rfl | assumption) | apply Fz.fnL)); done))); (try simp only [put, rowsOf, plR, selE, ovr, setH, del, cellsA, splice, isV, spq, if_true, if_false]))
    | (show AW _ _ _ _ _ _ _ _; first | refine aw_region ?_ | (refine aw_seqk ?_; intro K hK) | (apply aw_cond_f; exact rfl; exact (by assumption)) | refine aw_ret ?_ | refine aw_exit ?_)
    | refine thn_n ?_
    | (refine hK _ _ _ ?_; clear hK K)
    | refine thn_e ?_
    | refine inb_same ?_
    | (clear hK K; refine hK _ _ _ ?_; clear hK K))); all_goals (repeat (clear hK K)))
      all_goals exact fin_r (fin_b rfl (by simp))
set_option maxHeartbeats 2000000 in
theorem trees_some (cs ms : List Int) (hm : ∀ b ∈ ms, 0 ≤ b ∧ b ≤ 255) (hc0 : cs.length ≤ 1048576) (hm0 : ms.length ≤ 1048576) {n root : Int} {ls : List Ln} {zs d T C : List Int} (hle : ls.length ≤ 32) (hdl : d.length ≤ 200)
    (hD : ∀ k, RC Try.prog 40 [.dsl 1 (byL cs)] [] k (.tup [.agg [.v (.int .i64 n), .sl k 0 ls.length], .dsl 1 (zs.map inL), .v (.int .i64 root), .sl (k + 1) 0 d.length]) [(k, some ⟨56, 4, true, ls.map lnL⟩), (k + 1, some ⟨2, 1, true, d.map inL⟩)] (k + 2))
    (hS : ∀ k, RO Try.prog 31 [.agg (bkL n ls)] k (.tup [.sl k 0 T.length, .v (.int .i64 0)]) [(k, ⟨2, 1, true, T.map inL⟩)] (k + 1))
    (hT : ∀ k, RO Try.prog 41 [.agg (bkL n ls), .dsl 1 (T.map inL)] k (.v (.bool true)) [] k)
    (hC : ∀ k, RO Try.prog 42 [.agg (bkL n ls)] k (.tup [.sl k 0 C.length, .v (.int .i64 0)]) [(k, ⟨2, 1, true, C.map inL⟩)] (k + 1))
    (hTl : T.length ≤ ls.length) (hTr : ∀ x ∈ T, 0 ≤ x ∧ x < ls.length) (hCl : C.length ≤ ls.length) (hCT : ∀ i, (h : i < C.length) → (T.any fun y => y == C[i]) = true) (hLo : (∃ e : Int, e ≠ 0 ∧ ∀ k, RO Try.prog 27 [.agg (bkL n ls), .dsl 1 (T.map inL), .v (.int .i64 root), .dsl 1 (d.map inL)] k (.tup [.v (.slice none 0 0), .v (.int .i64 e)]) [] k) ∨ (∃ ld : List Int, ld.length = ls.length ∧ (d.length : Int) = n ∧ (0 ≤ root ∧ root < n) ∧ IntKind.i64.wrap (d.getD root.toNat 0) = d.getD root.toNat 0 ∧ sumR ls root d ld ls.length = sumW d (fun _ => 1) d.length ∧ ∀ k, RO Try.prog 27 [.agg (bkL n ls), .dsl 1 (T.map inL), .v (.int .i64 root), .dsl 1 (d.map inL)] k (.tup [.sl k 0 ls.length, .v (.int .i64 0)]) [(k, ⟨2, 1, true, ld.map inL⟩)] (k + 1))) (ht : 0 < T.length) (hex : ∀ o x : Int, o ∈ T → 0 ≤ x → x < ls.length → itV n ls (selI (othP T o x) ls.length) = true → (lnAt ls o).o ≤ (lnAt ls x).o)
    (k : Nat) : RO Try.prog 11 [.dsl 1 (byL cs), .dsl 1 (byL ms)] k (.v (.bool true)) [] k := by
  have hLong := b10Long_ro cs
  have hLong2 := b10Long_ro ms
  rw [decide_eq_false (show ¬ (1048576 < (cs.length : Int)) by omega)] at hLong
  rw [decide_eq_false (show ¬ (1048576 < (ms.length : Int)) by omega)] at hLong2
  have hli : (ls.map lnL).length = ls.length := List.length_map _
  have hdm : (d.map inL).length = d.length := List.length_map _
  have hTm : (T.map inL).length = T.length := List.length_map _
  have z0 : ((0 : Int) != 0) = false := rfl
  have hH := fun x => b10Has_ro T x (by omega)
  unfold bkL at hS hT hC hLo
  refine RO.ofv' Try.func11 Try.ntmps11 rfl (goFn_of Try.func11 rfl (by kernel_rfl)) rfl rfl ?_
  ((repeat' (first
    | (show SQ _ _ _ _ _ _ _ _; first | apply sq_nil | (apply q_move; exact rfl; exact rfl) | (apply q_assign; exact rfl; exact rfl) | (apply q_pick_f; (iterate 3 exact rfl); exact (by first | assumption | exact rfl)) | (apply q_not; exact rfl; exact rfl) | (apply q_ext; iterate 3 exact rfl) | (apply q_neq; iterate 3 exact rfl) | (apply q_g; (iterate 3 exact rfl); exact (by assumption)))
    | (show SQ _ _ _ _ _ _ _ _; (first | (apply q_ldap; exact rfl; exact rfl; exact (ty rfl); exact rfl; exact rfl; exact (by first | rfl | assumption | ((try simp only [Nat.zero_add]); refine List.getElem?_set_self ?_; (try simp only [List.length_set]); assumption)); exact rfl) | (apply q_alloc; exact rfl; exact (ty rfl); exact rfl; exact rfl) | (apply q_store; exact rfl; exact rfl; exact (ty rfl); exact rfl; exact (by first | rfl | assumption | ((try simp only [Nat.zero_add]); refine List.getElem?_set_self ?_; (try simp only [List.length_set]); assumption)); iterate 3 exact rfl) | (apply q_callU; (iterate 3 exact rfl); exact FzL.of rfl; exact hLong _) | (apply q_callU; (iterate 3 exact rfl); exact FzL.of rfl; exact hLong2 _) | (apply q_callU; (iterate 3 exact rfl); rotate_left; exact hS _; rotate_right; focus ((repeat' (first | exact FzL.nil | exact (by assumption : FzC _) _ | refine FzL.cons ?_ ?_ | exact Fz.of rfl | exact Fz.nil | exact Fz.emp | (apply Fz.fnC; assumption) | (apply Fz.sl2; exact rfl; exact (by first | omega | (simp; done) | (simp; omega)); first | exact rfl | exact dt_full (by first | omega | (simp; done) | (simp; omega)) | assumption) | apply Fz.agg | (apply Fz.ptrL; exact rfl; first | exact rfl | assumption) | apply Fz.fnL)); done)) | (apply q_callU; (iterate 3 exact rfl); rotate_left; exact hT _; rotate_right; focus ((repeat' (first | exact FzL.nil | exact (by assumption : FzC _) _ | refine FzL.cons ?_ ?_ | exact Fz.of rfl | exact Fz.nil | exact Fz.emp | (apply Fz.fnC; assumption) | (apply Fz.sl2; exact rfl; exact (by first | omega | (simp; done) | (simp; omega)); first | exact rfl | exact dt_full (by first | omega | (simp; done) | (simp; omega)) | assumption) | apply Fz.agg | (apply Fz.ptrL; exact rfl; first | exact rfl | assumption) | apply Fz.fnL)); done)) | (apply q_callU; (iterate 3 exact rfl); rotate_left; exact hC _; rotate_right; focus ((repeat' (first | exact FzL.nil | exact (by assumption : FzC _) _ | refine FzL.cons ?_ ?_ | exact Fz.of rfl | exact Fz.nil | exact Fz.emp | (apply Fz.fnC; assumption) | (apply Fz.sl2; exact rfl; exact (by first | omega | (simp; done) | (simp; omega)); first | exact rfl | exact dt_full (by first | omega | (simp; done) | (simp; omega)) | assumption) | apply Fz.agg | (apply Fz.ptrL; exact rfl; first | exact rfl | assumption) | apply Fz.fnL)); done)) | (apply q_callC; (iterate 3 exact rfl); exact hD _; (focus ((repeat (first | exact trivial | refine ⟨by first | exact rfl | assumption, ?_⟩)); done)); skip)); (try simp only [put, rowsOf, plR, selE, ovr, setH, del, cellsA, splice, isV, spq, if_true, if_false]))
    | (show AW _ _ _ _ _ _ _ _; first | refine aw_region ?_ | (refine aw_seqk ?_; intro K hK) | refine aw_block ?_ | (apply aw_cond_f; exact rfl; exact rfl) | refine aw_skip ?_)
    | refine thn_n ?_
    | (refine hK _ _ _ ?_; clear hK K))); all_goals (repeat (clear hK K)))
  refine aw_loop (ρ := fun z => z) (ι := Nat) (fun i => ([(13, .v (.int .i64 i)), (11, .sl 4 0 C.length), (9, .sl 3 0 T.length), (8, .sl 1 0 d.length), (7, .v (.int .i64 root)), (5, .ptr 2 0 0), (1, .dsl 1 (byL ms))],
      [(0, ⟨56, 4, true, ls.map lnL⟩), (1, ⟨2, 1, true, d.map inL⟩), (2, ⟨31, 2, false, [[.v (.int .i64 n), .sl 0 0 ls.length]]⟩), (3, ⟨2, 1, true, T.map inL⟩), (4, ⟨2, 1, true, C.map inL⟩)], 5))
    (fun i => i ≤ C.length) (fun i => C.length - i) 0 (Nat.zero_le _) ⟨by (repeat (refine ⟨by first | exact lk_i rfl rfl | exact lk_d rfl rfl | exact lk_r rfl rfl rfl | exact lk_s rfl rfl rfl rfl, ?_⟩)); exact trivial, by (repeat (refine ⟨by first | exact ⟨rfl, rfl, rfl⟩, ?_⟩)); exact trivial, by rfl, by exact pin_0⟩ ?_
  intro i hi
  by_cases d1 : i < C.length
  · have f1 : decide ((i : Int) < (C.length : Int)) = true := by simpa using d1
    have hrow : (C.map inL)[0 + ((i : Int)).toNat]? = some (inL C[i]) := by simp [d1]
    rw [inL_eq] at hrow
    have hh := hH C[i]
    rw [hCT i d1] at hh
    have hw : IntKind.i64.wrap ((i : Int) + 1) = ((i + 1 : Nat) : Int) := by rw [IntWalk.i64_in _ (by omega)]; omega
    ((repeat' (first
    | (show SQ _ _ _ _ _ _ _ _; first | apply sq_nil | (apply q_move; exact rfl; exact rfl) | (apply q_assign; exact rfl; exact rfl) | (apply q_not; exact rfl; exact rfl) | (apply q_lenl; exact rfl; exact rfl; exact (ty rfl); exact rfl) | (apply q_add; iterate 3 exact rfl) | (apply q_lss; iterate 3 exact rfl) | (apply q_ixl; (iterate 3 exact rfl); exact (ty rfl); (iterate 3 exact rfl); exact (by first | omega | (simp; done) | (simp; omega)); exact (by first | omega | (simp; done) | (simp; omega))) | (apply q_ld1p; exact rfl; exact rfl; exact (ty rfl); exact rfl; exact rfl; exact (by first | rfl | assumption | ((try simp only [Nat.zero_add]); refine List.getElem?_set_self ?_; (try simp only [List.length_set]); assumption)); exact rfl))
    | (show SQ _ _ _ _ _ _ _ _; (first | (apply q_callU; (iterate 3 exact rfl); rotate_left; exact hh _; rotate_right; focus ((repeat' (first | exact FzL.nil | exact (by assumption : FzC _) _ | refine FzL.cons ?_ ?_ | exact Fz.of rfl | exact Fz.nil | exact Fz.emp | (apply Fz.fnC; assumption) | (apply Fz.sl2; exact rfl; exact (by first | omega | (simp; done) | (simp; omega)); first | exact rfl | exact dt_full (by first | omega | (simp; done) | (simp; omega)) | assumption) | apply Fz.agg | (apply Fz.ptrL; exact rfl; first | exact rfl | assumption) | apply Fz.fnL)); done))); (try simp only [put, rowsOf, plR, selE, ovr, setH, del, cellsA, splice, isV, spq, if_true, if_false]))
    | (show AW _ _ _ _ _ _ _ _; first | refine aw_region ?_ | (refine aw_seqk ?_; intro K hK) | refine aw_block ?_ | (apply aw_cond_f; exact rfl; exact rfl) | (apply aw_cond_t; exact rfl; exact (by assumption)) | refine aw_skip ?_)
    | refine thn_n ?_
    | (refine hK _ _ _ ?_; clear hK K)
    | refine inb_n ?_)); all_goals (repeat (clear hK K)))
    all_goals (refine ⟨i + 1, fun z => z, d1, by omega, ?_⟩; (try dsimp only); rw [← hw]; exact ⟨by (repeat (refine ⟨by first | exact lk_i rfl rfl | exact lk_d rfl rfl | exact lk_r rfl rfl rfl | exact lk_s rfl rfl rfl rfl, ?_⟩)); exact trivial, by (repeat (refine ⟨by first | exact ⟨rfl, rfl, rfl⟩, ?_⟩)); exact trivial, by rfl, by exact pin_0⟩)
  have f1 : decide ((i : Int) < (C.length : Int)) = false := by simpa using d1
  have f2 : decide ((0 : Int) < (T.length : Int)) = true := by simpa using ht
  obtain ⟨q0, q1⟩ := bt8_bd ms 0 (T.length : Int) (by omega)
  have hA := b10At_ro ms hm (by omega) 0 (T.length : Int) (by omega) (by omega) (by omega)
  generalize bt8 ms 0 (T.length : Int) = at0 at *
  obtain ⟨a0, rfl⟩ : ∃ a0 : Nat, at0 = a0 := ⟨at0.toNat, by omega⟩
  have hTp : 0 < ls.length := by omega
  obtain ⟨q2, q3⟩ := bt8_bd ms 1 (ls.length : Int) (by omega)
  have hB := b10At_ro ms hm (by omega) 1 (ls.length : Int) (by omega) (by omega) (by omega)
  generalize bt8 ms 1 (ls.length : Int) = x at *
  have ha : a0 < T.length := by omega
  have hrow0 : (T.map inL)[0 + ((a0 : Int)).toNat]? = some (inL T[a0]) := by simp [ha]
  rw [inL_eq] at hrow0
  have hoT := List.getElem_mem ha
  obtain ⟨o0, o1⟩ := hTr _ hoT
  have hex := hex _ x hoT q2 q3
  have hIO := implIsTree_ro n ls (selI (othP T T[a0] x) ls.length) (by omega) (by have := selI_len (othP T T[a0] x) ls.length; omega)
  generalize T[a0] = o at *
  unfold bkL at hIO
  ((repeat' (first
    | (show SQ _ _ _ _ _ _ _ _; first | apply sq_nil | (apply q_move; exact rfl; exact rfl) | (apply q_assign; exact rfl; exact rfl) | (apply q_fieldAddr; exact rfl; exact rfl; exact (ty rfl); iterate 4 exact rfl) | (apply q_lenl; exact rfl; exact rfl; exact (ty rfl); exact rfl) | (apply q_lss; iterate 3 exact rfl) | (apply q_gtr; iterate 3 exact rfl) | (apply q_ixl; (iterate 3 exact rfl); exact (ty rfl); (iterate 3 exact rfl); exact (by first | omega | (simp; done) | (simp; omega)); exact (by first | omega | (simp; done) | (simp; omega))) | (apply q_ld1p; exact rfl; exact rfl; exact (ty rfl); exact rfl; exact rfl; exact (by first | rfl | assumption | ((try simp only [Nat.zero_add]); refine List.getElem?_set_self ?_; (try simp only [List.length_set]); assumption)); exact rfl))
    | (show SQ _ _ _ _ _ _ _ _; (first | (apply q_build0; exact rfl; exact (ty rfl); exact rfl) | (apply q_callU; (iterate 3 exact rfl); exact FzL.of rfl; exact hA _) | (apply q_callU; (iterate 3 exact rfl); exact FzL.of rfl; exact hB _)); (try simp only [put, rowsOf, plR, selE, ovr, setH, del, cellsA, splice, isV, spq, if_true, if_false]))
    | (show AW _ _ _ _ _ _ _ _; first | refine aw_region ?_ | (refine aw_seqk ?_; intro K hK) | refine aw_block ?_ | (apply aw_cond_t; exact rfl; exact (by assumption)) | (apply aw_cond_f; exact rfl; exact (by assumption)) | refine aw_exit ?_)
    | refine thn_n ?_
    | (refine hK _ _ _ ?_; clear hK K)
    | refine thn_e ?_
    | refine inb_same ?_
    | (clear hK K; refine hK _ _ _ ?_; clear hK K))); all_goals (repeat (clear hK K)))
  refine aw_loop (ρ := fun z => if z = 4 then 5 else z) (ι := Nat) (fun i => ([(18, .v (.int .i64 i)), (17, .sl 4 0 (selI (othP T o x) i).length), (16, .v (.int .i64 x)), (15, .v (.int .i64 o)), (14, .v (.int .i64 (ls.length : Nat))), (9, .sl 3 0 T.length), (8, .sl 1 0 d.length), (7, .v (.int .i64 root)), (5, .ptr 2 0 0)],
      [(0, ⟨56, 4, true, ls.map lnL⟩), (1, ⟨2, 1, true, d.map inL⟩), (2, ⟨31, 2, false, [[.v (.int .i64 n), .sl 0 0 ls.length]]⟩), (3, ⟨2, 1, true, T.map inL⟩), (4, ⟨2, 1, true, (selI (othP T o x) i).map inL⟩)], 5))
    (fun i => i ≤ ls.length) (fun i => ls.length - i) 0 (Nat.zero_le _) ⟨by (repeat (refine ⟨by first | exact lk_i rfl rfl | exact lk_r rfl rfl rfl | exact lk_s rfl rfl rfl rfl, ?_⟩)); exact trivial, by (repeat (refine ⟨by first | exact ⟨rfl, rfl, rfl⟩, ?_⟩)); exact trivial, by rfl, by exact pin_0⟩ ?_
  clear hi d1 f1 i
  intro i hi
  have hsl : ((selI (othP T o x) i).map inL).length = (selI (othP T o x) i).length := List.length_map _
  have hsl2 := selI_len (othP T o x) i
  by_cases d2 : i < ls.length
  · have f3 : decide ((i : Int) < (ls.length : Int)) = true := by simpa using d2
    have hw : IntKind.i64.wrap ((i : Int) + 1) = ((i + 1 : Nat) : Int) := by rw [IntWalk.i64_in _ (by omega)]; omega
    have hh := hH (i : Int)
    cases p1 : ((i : Int) != o) with
    | false =>
      have hp : othP T o x i = false := by unfold othP; rw [p1]; rfl
      have hs := selI_no hp
      ((repeat' (first
    | (show SQ _ _ _ _ _ _ _ _; first | apply sq_nil | (apply q_move; exact rfl; exact rfl) | (apply q_assign; exact rfl; exact rfl) | (apply q_pick_f; (iterate 3 exact rfl); exact (by first | assumption | exact rfl)) | (apply q_add; iterate 3 exact rfl) | (apply q_neq; iterate 3 exact rfl) | (apply q_lss; iterate 3 exact rfl) | (apply q_s; (iterate 3 exact rfl); exact (by assumption); exact rfl) | (apply q_sU; iterate 4 exact rfl))
    | (show AW _ _ _ _ _ _ _ _; first | refine aw_region ?_ | (refine aw_seqk ?_; intro K hK) | refine aw_block ?_ | (apply aw_cond_f; exact rfl; exact rfl) | (apply aw_cond_t; exact rfl; exact (by assumption)) | refine aw_skip ?_)
    | refine thn_n ?_
    | (refine hK _ _ _ ?_; clear hK K)
    | refine inb_n ?_)); all_goals (repeat (clear hK K)))
      all_goals (refine ⟨i + 1, fun z => z, d2, by omega, ?_⟩; (try dsimp only); rw [hs, ← hw]; exact ⟨by (repeat (refine ⟨by first | exact lk_i rfl rfl | exact lk_r rfl rfl rfl | exact lk_s rfl rfl rfl rfl, ?_⟩)); exact trivial, by (repeat (refine ⟨by first | exact ⟨rfl, rfl, rfl⟩, ?_⟩)); exact trivial, by rfl, by exact pin_0⟩)
    | true =>
      cases p2 : (T.any fun y => y == (i : Int)) with
      | true =>
        rw [p2] at hh
        have hp : othP T o x i = true := by unfold othP; rw [p1, p2]; rfl
        have hs := selI_yes hp
        ((repeat' (first
    | (show SQ _ _ _ _ _ _ _ _; first | apply sq_nil | (apply q_move; exact rfl; exact rfl) | (apply q_assign; exact rfl; exact rfl) | (apply q_pick_t; (iterate 3 exact rfl); exact (by first | assumption | exact rfl)) | (apply q_add; iterate 3 exact rfl) | (apply q_neq; iterate 3 exact rfl) | (apply q_lss; iterate 3 exact rfl) | (apply q_g; (iterate 3 exact rfl); exact (by assumption)) | (apply q_s; iterate 5 exact rfl))
    | (show SQ _ _ _ _ _ _ _ _; (first | (apply q_buildn; exact rfl; exact (ty rfl); iterate 7 exact rfl) | (apply q_apo_s; (iterate 3 exact rfl); exact (ty rfl); exact rfl; exact rfl; exact (by first | omega | (simp; done) | (simp; omega)); exact (by first | exact List.take_of_length_le (by first | omega | (simp; done) | (simp; omega)) | rfl); exact (ty rfl); exact rfl; exact rfl; exact (by first | omega | (simp; done) | (simp; omega)); exact (by first | exact dt_full (by first | omega | (simp; done) | (simp; omega)) | assumption | rfl); exact rfl; exact (by first | omega | (simp; done) | (simp; omega)); exact (by first | omega | (simp; done) | (simp; omega)); exact (by first | assumption | exact rfl)) | (apply q_callU; (iterate 3 exact rfl); rotate_left; exact hh _; rotate_right; focus ((repeat' (first | exact FzL.nil | exact (by assumption : FzC _) _ | refine FzL.cons ?_ ?_ | exact Fz.of rfl | exact Fz.nil | exact Fz.emp | (apply Fz.fnC; assumption) | (apply Fz.sl2; exact rfl; exact (by first | omega | (simp; done) | (simp; omega)); first | exact rfl | exact dt_full (by first | omega | (simp; done) | (simp; omega)) | assumption) | apply Fz.agg | (apply Fz.ptrL; exact rfl; first | exact rfl | assumption) | apply Fz.fnL)); done))); (try simp only [put, rowsOf, plR, selE, ovr, setH, del, cellsA, splice, isV, spq, if_true, if_false]))
    | (show AW _ _ _ _ _ _ _ _; first | refine aw_region ?_ | (refine aw_seqk ?_; intro K hK) | refine aw_block ?_ | (apply aw_cond_t; exact rfl; exact rfl) | (apply aw_cond_t; exact rfl; exact (by assumption)) | refine aw_skip ?_)
    | refine thn_n ?_
    | (refine hK _ _ _ ?_; clear hK K)
    | refine inb_n ?_)); all_goals (repeat (clear hK K)))
        all_goals (refine ⟨i + 1, fun j => [0, 1, 2, 3, 6].getD j 0, d2, by omega, ?_⟩; (try dsimp only); rw [hs, List.map_append, ← hw]; exact ⟨by (repeat (refine ⟨by first | exact lk_i rfl rfl | exact lk_r rfl rfl rfl | exact lk_s rfl rfl rfl rfl | exact lk_s rfl rfl (by (try dsimp only); first | rfl | omega | (rw [IntWalk.i64_in _ (by omega)]; first | rfl | omega | (push_cast; omega)) | (simp; done) | (simp; omega)) rfl, ?_⟩)); exact trivial, by (repeat (refine ⟨by first | exact ⟨rfl, rfl, rfl⟩, ?_⟩)); exact trivial, by rfl, by exact pin_0⟩)
      | false =>
        rw [p2] at hh
        cases p3 : ((i : Int) == x) with
        | true =>
          have hp : othP T o x i = true := by unfold othP; rw [p1, p2, p3]; rfl
          have hs := selI_yes hp
          ((repeat' (first
    | (show SQ _ _ _ _ _ _ _ _; first | apply sq_nil | (apply q_move; exact rfl; exact rfl) | (apply q_assign; exact rfl; exact rfl) | (apply q_pick_t; (iterate 3 exact rfl); exact (by first | assumption | exact rfl)) | (apply q_pick_f; (iterate 3 exact rfl); exact (by first | assumption | exact rfl)) | (apply q_add; iterate 3 exact rfl) | (apply q_eql; iterate 3 exact rfl) | (apply q_neq; iterate 3 exact rfl) | (apply q_lss; iterate 3 exact rfl) | (apply q_g; (iterate 3 exact rfl); exact (by assumption)))
    | (show SQ _ _ _ _ _ _ _ _; (first | (apply q_buildn; exact rfl; exact (ty rfl); iterate 7 exact rfl) | (apply q_apo_s; (iterate 3 exact rfl); exact (ty rfl); exact rfl; exact rfl; exact (by first | omega | (simp; done) | (simp; omega)); exact (by first | exact List.take_of_length_le (by first | omega | (simp; done) | (simp; omega)) | rfl); exact (ty rfl); exact rfl; exact rfl; exact (by first | omega | (simp; done) | (simp; omega)); exact (by first | exact dt_full (by first | omega | (simp; done) | (simp; omega)) | assumption | rfl); exact rfl; exact (by first | omega | (simp; done) | (simp; omega)); exact (by first | omega | (simp; done) | (simp; omega)); exact (by first | assumption | exact rfl)) | (apply q_callU; (iterate 3 exact rfl); rotate_left; exact hh _; rotate_right; focus ((repeat' (first | exact FzL.nil | exact (by assumption : FzC _) _ | refine FzL.cons ?_ ?_ | exact Fz.of rfl | exact Fz.nil | exact Fz.emp | (apply Fz.fnC; assumption) | (apply Fz.sl2; exact rfl; exact (by first | omega | (simp; done) | (simp; omega)); first | exact rfl | exact dt_full (by first | omega | (simp; done) | (simp; omega)) | assumption) | apply Fz.agg | (apply Fz.ptrL; exact rfl; first | exact rfl | assumption) | apply Fz.fnL)); done))); (try simp only [put, rowsOf, plR, selE, ovr, setH, del, cellsA, splice, isV, spq, if_true, if_false]))
    | (show AW _ _ _ _ _ _ _ _; first | refine aw_region ?_ | (refine aw_seqk ?_; intro K hK) | refine aw_block ?_ | (apply aw_cond_t; exact rfl; exact (by assumption)) | refine aw_skip ?_)
    | refine thn_n ?_
    | (refine hK _ _ _ ?_; clear hK K)
    | refine inb_n ?_)); all_goals (repeat (clear hK K)))
          all_goals (refine ⟨i + 1, fun j => [0, 1, 2, 3, 6].getD j 0, d2, by omega, ?_⟩; (try dsimp only); rw [hs, List.map_append, ← hw]; exact ⟨by (repeat (refine ⟨by first | exact lk_i rfl rfl | exact lk_r rfl rfl rfl | exact lk_s rfl rfl rfl rfl | exact lk_s rfl rfl (by (try dsimp only); first | rfl | omega | (rw [IntWalk.i64_in _ (by omega)]; first | rfl | omega | (push_cast; omega)) | (simp; done) | (simp; omega)) rfl, ?_⟩)); exact trivial, by (repeat (refine ⟨by first | exact ⟨rfl, rfl, rfl⟩, ?_⟩)); exact trivial, by rfl, by exact pin_0⟩)
        | false =>
          have hp : othP T o x i = false := by unfold othP; rw [p1, p2, p3]; rfl
          have hs := selI_no hp
          ((repeat' (first
    | (show SQ _ _ _ _ _ _ _ _; first | apply sq_nil | (apply q_move; exact rfl; exact rfl) | (apply q_assign; exact rfl; exact rfl) | (apply q_pick_t; (iterate 3 exact rfl); exact (by first | assumption | exact rfl)) | (apply q_pick_f; (iterate 3 exact rfl); exact (by first | assumption | exact rfl)) | (apply q_add; iterate 3 exact rfl) | (apply q_eql; iterate 3 exact rfl) | (apply q_neq; iterate 3 exact rfl) | (apply q_lss; iterate 3 exact rfl) | (apply q_g; (iterate 3 exact rfl); exact (by assumption)))
    | (show SQ _ _ _ _ _ _ _ _; (first | (apply q_callU; (iterate 3 exact rfl); rotate_left; exact hh _; rotate_right; focus ((repeat' (first | exact FzL.nil | exact (by assumption : FzC _) _ | refine FzL.cons ?_ ?_ | exact Fz.of rfl | exact Fz.nil | exact Fz.emp | (apply Fz.fnC; assumption) | (apply Fz.sl2; exact rfl; exact (by first | omega | (simp; done) | (simp; omega)); first | exact rfl | exact dt_full (by first | omega | (simp; done) | (simp; omega)) | assumption) | apply Fz.agg | (apply Fz.ptrL; exact rfl; first | exact rfl | assumption) | apply Fz.fnL)); done))); (try simp only [put, rowsOf, plR, selE, ovr, setH, del, cellsA, splice, isV, spq, if_true, if_false]))
    | (show AW _ _ _ _ _ _ _ _; first | refine aw_region ?_ | (refine aw_seqk ?_; intro K hK) | refine aw_block ?_ | (apply aw_cond_t; exact rfl; exact (by assumption)) | (apply aw_cond_f; exact rfl; exact (by assumption)) | refine aw_skip ?_)
    | refine thn_n ?_
    | (refine hK _ _ _ ?_; clear hK K)
    | refine inb_n ?_)); all_goals (repeat (clear hK K)))
          all_goals (refine ⟨i + 1, fun z => z, d2, by omega, ?_⟩; (try dsimp only); rw [hs, ← hw]; exact ⟨by (repeat (refine ⟨by first | exact lk_i rfl rfl | exact lk_r rfl rfl rfl | exact lk_s rfl rfl rfl rfl, ?_⟩)); exact trivial, by (repeat (refine ⟨by first | exact ⟨rfl, rfl, rfl⟩, ?_⟩)); exact trivial, by rfl, by exact pin_0⟩)
  have f3 : decide ((i : Int) < (ls.length : Int)) = false := by simpa using d2
  obtain rfl : i = ls.length := by omega
  have g1 : decide (o < 0) = false := by simp; omega
  have g2 : decide (o ≥ (ls.length : Int)) = false := by simp; omega
  obtain ⟨x0, rfl⟩ : ∃ x0 : Nat, x = x0 := ⟨x.toNat, by omega⟩
  obtain ⟨o', rfl⟩ : ∃ x0 : Nat, o = x0 := ⟨o.toNat, by omega⟩
  have hx3 : x0 < ls.length := by omega
  have ho3 : o' < ls.length := by omega
  have hrow1 : (ls.map lnL)[0 + ((x0 : Int)).toNat]? = some (lnL ls[x0]) := by simp [hx3]
  have hrow2 : (ls.map lnL)[0 + ((o' : Int)).toNat]? = some (lnL ls[o']) := by simp [ho3]
  have e1 : lnAt ls (x0 : Int) = ls[x0] := by simp [lnAt, List.getD, hx3]
  have e2 : lnAt ls (o' : Int) = ls[o'] := by simp [lnAt, List.getD, ho3]
  rw [e1, e2] at hex
  generalize ls[x0] = lx at *
  generalize ls[o'] = lo at *
  cases hit : itV n ls (selI (othP T (o' : Int) (x0 : Int)) ls.length) with
  | true =>
    rw [hit] at hIO
    have g3 : decide (lx.o < lo.o) = false := by simpa using hex hit
    rcases hLo with ⟨e, he, hLo⟩ | ⟨ld, hld, hd, hr, hw0, hsum, hLo⟩
    · have b1 : (e != 0) = true := by simpa using he
      ((repeat' (first
    | (show SQ _ _ _ _ _ _ _ _; first | apply sq_nil | (apply q_move; exact rfl; exact rfl) | (apply q_assign; exact rfl; exact rfl) | (apply q_ext; iterate 3 exact rfl) | (apply q_lenn; exact rfl; exact rfl; exact (ty rfl); exact rfl) | (apply q_eql; iterate 3 exact rfl) | (apply q_neq; iterate 3 exact rfl) | (apply q_lss; iterate 3 exact rfl))
    | (show SQ _ _ _ _ _ _ _ _; (first | (apply q_ldap; exact rfl; exact rfl; exact (ty rfl); exact rfl; exact rfl; exact (by first | rfl | assumption | ((try simp only [Nat.zero_add]); refine List.getElem?_set_self ?_; (try simp only [List.length_set]); assumption)); exact rfl) | (apply q_callU; (iterate 3 exact rfl); rotate_left; exact hLo _; rotate_right; focus ((repeat' (first | exact FzL.nil | exact (by assumption : FzC _) _ | refine FzL.cons ?_ ?_ | exact Fz.of rfl | exact Fz.nil | exact Fz.emp | (apply Fz.fnC; assumption) | (apply Fz.sl2; exact rfl; exact (by first | omega | (simp; done) | (simp; omega)); first | exact rfl | exact dt_full (by first | omega | (simp; done) | (simp; omega)) | assumption) | apply Fz.agg | (apply Fz.ptrL; exact rfl; first | exact rfl | assumption) | apply Fz.fnL)); done))); (try simp only [put, rowsOf, plR, selE, ovr, setH, del, cellsA, splice, isV, spq, if_true, if_false]))
    | (show DE _ _ _ _ _ _ _ _ _ _ _ _; first | (apply e_move; iterate 3 exact rfl) | (apply e_pick_t; (iterate 3 exact rfl); exact (by first | assumption | exact rfl); exact rfl) | (apply e_pick_f; (iterate 3 exact rfl); exact (by first | assumption | exact rfl); exact rfl) | (apply e_fieldAddr; exact rfl; exact rfl; exact (ty rfl); iterate 5 exact rfl) | (apply e_lss; iterate 4 exact rfl) | (apply e_geq; iterate 4 exact rfl) | (apply e_ixl; (iterate 3 exact rfl); exact (ty rfl); (iterate 3 exact rfl); exact (by first | omega | (simp; done) | (simp; omega)); exact (by first | omega | (simp; done) | (simp; omega)); exact rfl) | (apply e_ld1p; exact rfl; exact rfl; exact (ty rfl); exact rfl; exact rfl; exact (by first | rfl | assumption | ((try simp only [Nat.zero_add]); refine List.getElem?_set_self ?_; (try simp only [List.length_set]); assumption)); exact rfl; exact rfl) | (apply e_g; (iterate 3 exact rfl); exact (by assumption)) | (apply e_g; iterate 4 exact rfl))
    | (show DE _ _ _ _ _ _ _ _ _ _ _ _; (first | (apply dr_nil; exact trivial) | (apply e_ldap; exact rfl; exact rfl; exact (ty rfl); exact rfl; exact rfl; exact (by first | rfl | assumption | ((try simp only [Nat.zero_add]); refine List.getElem?_set_self ?_; (try simp only [List.length_set]); assumption)); exact rfl; exact rfl) | (apply e_callU; (iterate 3 exact rfl); rotate_left; exact hIO _; exact rfl; rotate_right; focus ((repeat' (first | exact FzL.nil | exact (by assumption : FzC _) _ | refine FzL.cons ?_ ?_ | exact Fz.of rfl | exact Fz.nil | exact Fz.emp | (apply Fz.fnC; assumption) | (apply Fz.sl2; exact rfl; exact (by first | omega | (simp; done) | (simp; omega)); first | exact rfl | exact dt_full (by first | omega | (simp; done) | (simp; omega)) | assumption) | apply Fz.agg | (apply Fz.ptrL; exact rfl; first | exact rfl | assumption) | apply Fz.fnL)); done))); (try simp only [put, rowsOf, plR, selE, ovr, setH, del, cellsA, splice, isV, spq, if_true, if_false]))
    | (show AW _ _ _ _ _ _ _ _; first | refine aw_region ?_ | (refine aw_seqk ?_; intro K hK) | (apply aw_cond_t; exact rfl; exact (by assumption)) | (apply aw_cond_f; exact rfl; exact (by assumption)) | refine aw_ret ?_ | refine aw_exit ?_ | refine aw_skip ?_ | refine aw_drawE (id := 27) [0, 1, 3, 7, 7, 31, 63, 127, 255, 255, 1023, 2047, 4095, 8191, 4095, 32767, 65535, 131071, 4095, 266239, 4095, 1839103, 3936255, 8130559, 16777215, 33554431, 67108863] [0, 0, 0, 0, 0, 0, 0, 0, 1, 0, 1, 0, 0, 1, 0, 1, 0, 1, 0, 1, 0, 1, 0, 1, 0, 0, 0] mixed (by kernel_rfl) ?_)
    | refine thn_n ?_
    | (refine hK _ _ _ ?_; clear hK K)
    | refine thn_e ?_
    | refine thn_r ?_
    | refine inb_same ?_
    | (clear hK K; refine hK _ _ _ ?_; clear hK K))); all_goals (repeat (clear hK K)))
      all_goals exact fin_r (fin_b rfl rfl)
    · obtain ⟨r0, rfl⟩ : ∃ r0 : Nat, root = r0 := ⟨root.toNat, by omega⟩
      have hrd : r0 < d.length := by omega
      have hrow3 : (d.map inL)[0 + ((r0 : Int)).toNat]? = some (inL (d.getD r0 0)) := by simp [hrd, List.getD]
      rw [inL_eq] at hrow3
      have b2 : ((ls.length : Int) != (ls.length : Int)) = false := by simp
      have b3 : ((d.length : Int) != n) = false := by simpa using hd
      have b4 : decide ((r0 : Int) < 0) = false := by rw [decide_eq_false_iff_not]; omega
      have b5 : decide ((r0 : Int) ≥ n) = false := by simp; omega
      have hSm := b10Sum_ro d (by omega)
      have hldm : (ld.map inL).length = ls.length := by rw [List.length_map, hld]
      rw [Int.toNat_natCast] at hw0
      ((repeat' (first
    | (show SQ _ _ _ _ _ _ _ _; first | apply sq_nil | (apply q_move; exact rfl; exact rfl) | (apply q_assign; exact rfl; exact rfl) | (apply q_pick_f; (iterate 3 exact rfl); exact (by first | assumption | exact rfl)) | (apply q_fieldAddr; exact rfl; exact rfl; exact (ty rfl); iterate 4 exact rfl) | (apply q_ext; iterate 3 exact rfl) | (apply q_lenl; exact rfl; exact rfl; exact (ty rfl); exact rfl) | (apply q_neq; iterate 3 exact rfl) | (apply q_lss; iterate 3 exact rfl) | (apply q_geq; iterate 3 exact rfl) | (apply q_ixl; (iterate 3 exact rfl); exact (ty rfl); (iterate 3 exact rfl); exact (by first | omega | (simp; done) | (simp; omega)); exact (by first | omega | (simp; done) | (simp; omega))) | (apply q_ld1p; exact rfl; exact rfl; exact (ty rfl); exact rfl; exact rfl; exact (by first | rfl | assumption | ((try simp only [Nat.zero_add]); refine List.getElem?_set_self ?_; (try simp only [List.length_set]); assumption)); exact rfl) | (apply q_g; (iterate 3 exact rfl); exact (by assumption)))
    | (show SQ _ _ _ _ _ _ _ _; (first | (apply q_ldap; exact rfl; exact rfl; exact (ty rfl); exact rfl; exact rfl; exact (by first | rfl | assumption | ((try simp only [Nat.zero_add]); refine List.getElem?_set_self ?_; (try simp only [List.length_set]); assumption)); exact rfl) | (apply q_callU; (iterate 3 exact rfl); rotate_left; exact hLo _; rotate_right; focus ((repeat' (first | exact FzL.nil | exact (by assumption : FzC _) _ | refine FzL.cons ?_ ?_ | exact Fz.of rfl | exact Fz.nil | exact Fz.emp | (apply Fz.fnC; assumption) | (apply Fz.sl2; exact rfl; exact (by first | omega | (simp; done) | (simp; omega)); first | exact rfl | exact dt_full (by first | omega | (simp; done) | (simp; omega)) | assumption) | apply Fz.agg | (apply Fz.ptrL; exact rfl; first | exact rfl | assumption) | apply Fz.fnL)); done))); (try simp only [put, rowsOf, plR, selE, ovr, setH, del, cellsA, splice, isV, spq, if_true, if_false]))
    | (show DE _ _ _ _ _ _ _ _ _ _ _ _; first | (apply e_move; iterate 3 exact rfl) | (apply e_pick_t; (iterate 3 exact rfl); exact (by first | assumption | exact rfl); exact rfl) | (apply e_pick_f; (iterate 3 exact rfl); exact (by first | assumption | exact rfl); exact rfl) | (apply e_fieldAddr; exact rfl; exact rfl; exact (ty rfl); iterate 5 exact rfl) | (apply e_lss; iterate 4 exact rfl) | (apply e_geq; iterate 4 exact rfl) | (apply e_ixl; (iterate 3 exact rfl); exact (ty rfl); (iterate 3 exact rfl); exact (by first | omega | (simp; done) | (simp; omega)); exact (by first | omega | (simp; done) | (simp; omega)); exact rfl) | (apply e_ld1p; exact rfl; exact rfl; exact (ty rfl); exact rfl; exact rfl; exact (by first | rfl | assumption | ((try simp only [Nat.zero_add]); refine List.getElem?_set_self ?_; (try simp only [List.length_set]); assumption)); exact rfl; exact rfl) | (apply e_g; (iterate 3 exact rfl); exact (by assumption)) | (apply e_g; iterate 4 exact rfl))
    | (show DE _ _ _ _ _ _ _ _ _ _ _ _; (first | (apply dr_nil; exact trivial) | (apply e_ldap; exact rfl; exact rfl; exact (ty rfl); exact rfl; exact rfl; exact (by first | rfl | assumption | ((try simp only [Nat.zero_add]); refine List.getElem?_set_self ?_; (try simp only [List.length_set]); assumption)); exact rfl; exact rfl) | (apply e_callU; (iterate 3 exact rfl); rotate_left; exact hIO _; exact rfl; rotate_right; focus ((repeat' (first | exact FzL.nil | exact (by assumption : FzC _) _ | refine FzL.cons ?_ ?_ | exact Fz.of rfl | exact Fz.nil | exact Fz.emp | (apply Fz.fnC; assumption) | (apply Fz.sl2; exact rfl; exact (by first | omega | (simp; done) | (simp; omega)); first | exact rfl | exact dt_full (by first | omega | (simp; done) | (simp; omega)) | assumption) | apply Fz.agg | (apply Fz.ptrL; exact rfl; first | exact rfl | assumption) | apply Fz.fnL)); done))); (try simp only [put, rowsOf, plR, selE, ovr, setH, del, cellsA, splice, isV, spq, if_true, if_false]))
    | (show AW _ _ _ _ _ _ _ _; first | refine aw_region ?_ | (refine aw_seqk ?_; intro K hK) | refine aw_block ?_ | (apply aw_cond_f; exact rfl; exact rfl) | (apply aw_cond_f; exact rfl; exact (by assumption)) | refine aw_exit ?_ | refine aw_skip ?_ | refine aw_drawE (id := 27) [0, 1, 3, 7, 7, 31, 63, 127, 255, 255, 1023, 2047, 4095, 8191, 4095, 32767, 65535, 131071, 4095, 266239, 4095, 1839103, 3936255, 8130559, 16777215, 33554431, 67108863] [0, 0, 0, 0, 0, 0, 0, 0, 1, 0, 1, 0, 0, 1, 0, 1, 0, 1, 0, 1, 0, 1, 0, 1, 0, 0, 0] mixed (by kernel_rfl) ?_)
    | refine thn_n ?_
    | (refine hK _ _ _ ?_; clear hK K)
    | refine thn_e ?_
    | refine inb_same ?_
    | (clear hK K; refine hK _ _ _ ?_; clear hK K))); all_goals (repeat (clear hK K)))
      refine aw_loop (ρ := fun z => if z = 3 then 5 else z) (ι := Nat) (fun i => ([(22, .v (.int .i64 i)), (21, .v (.int .i64 (IntKind.i64.wrap (sumR ls (r0 : Int) d ld i)))), (19, .sl 3 0 ls.length), (8, .sl 1 0 d.length), (7, .v (.int .i64 (r0 : Int))), (5, .ptr 2 0 0)],
          [(0, ⟨56, 4, true, ls.map lnL⟩), (1, ⟨2, 1, true, d.map inL⟩), (2, ⟨31, 2, false, [[.v (.int .i64 n), .sl 0 0 ls.length]]⟩), (3, ⟨2, 1, true, ld.map inL⟩)], 4))
        (fun i => i ≤ ls.length) (fun i => ls.length - i) 0 (Nat.zero_le _) (by rw [show IntKind.i64.wrap (sumR ls (r0 : Int) d ld 0) = d.getD r0 0 from hw0]; exact ⟨by (repeat (refine ⟨by first | exact lk_i rfl rfl | exact lk_r rfl rfl rfl | exact lk_s rfl rfl rfl rfl, ?_⟩)); exact trivial, by (repeat (refine ⟨by first | exact ⟨rfl, rfl, rfl⟩, ?_⟩)); exact trivial, by rfl, by exact pin_0⟩) ?_
      intro j hj
      by_cases d4 : j < ls.length
      · have f4 : decide ((j : Int) < (ls.length : Int)) = true := by simpa using d4
        have hw : IntKind.i64.wrap ((j : Int) + 1) = ((j + 1 : Nat) : Int) := by rw [IntWalk.i64_in _ (by omega)]; omega
        have hrow4 : (ls.map lnL)[0 + ((j : Int)).toNat]? = some (lnL (ls.getD j lnz)) := by simp [d4, List.getD]
        have hrow5 : (ld.map inL)[0 + ((j : Int)).toNat]? = some (inL (ld.getD j 0)) := by simp [List.getD, hld, d4]
        rw [inL_eq] at hrow5
        have hs := wrap_add (sumR ls (r0 : Int) d ld j) (ld.getD j 0)
        have hs1 : sumR ls (r0 : Int) d ld (j + 1) = if adjB (r0 : Int) (ls.getD j lnz) = true then sumR ls (r0 : Int) d ld j + ld.getD j 0 else sumR ls (r0 : Int) d ld j := rfl
        unfold adjB at hs1
        generalize ls.getD j lnz = l at *
        cases p1 : (l.a == (r0 : Int)) with
        | true =>
          rw [p1, Bool.true_or, if_pos rfl] at hs1
          ((repeat' (first
    | (show SQ _ _ _ _ _ _ _ _; first | apply sq_nil | (apply q_move; exact rfl; exact rfl) | (apply q_assign; exact rfl; exact rfl) | (apply q_pick_t; (iterate 3 exact rfl); exact (by first | assumption | exact rfl)) | (apply q_fieldAddr; exact rfl; exact rfl; exact (ty rfl); iterate 4 exact rfl) | (apply q_lenl; exact rfl; exact rfl; exact (ty rfl); exact rfl) | (apply q_add; iterate 3 exact rfl) | (apply q_eql; iterate 3 exact rfl) | (apply q_lss; iterate 3 exact rfl) | (apply q_ixl; (iterate 3 exact rfl); exact (ty rfl); (iterate 3 exact rfl); exact (by first | omega | (simp; done) | (simp; omega)); exact (by first | omega | (simp; done) | (simp; omega))) | (apply q_ld1p; exact rfl; exact rfl; exact (ty rfl); exact rfl; exact rfl; exact (by first | rfl | assumption | ((try simp only [Nat.zero_add]); refine List.getElem?_set_self ?_; (try simp only [List.length_set]); assumption)); exact rfl) | (apply q_s; (iterate 3 exact rfl); exact (by assumption); exact rfl))
    | (show AW _ _ _ _ _ _ _ _; first | refine aw_region ?_ | (refine aw_seqk ?_; intro K hK) | refine aw_block ?_ | (apply aw_cond_t; exact rfl; exact rfl) | (apply aw_cond_t; exact rfl; exact (by assumption)) | refine aw_skip ?_)
    | refine thn_n ?_
    | (refine hK _ _ _ ?_; clear hK K)
    | refine inb_n ?_)); all_goals (repeat (clear hK K)))
          all_goals (refine ⟨j + 1, fun z => z, d4, by omega, ?_⟩; (try dsimp only); rw [hs1, ← hs, ← hw]; exact ⟨by (repeat (refine ⟨by first | exact lk_i rfl rfl | exact lk_r rfl rfl rfl | exact lk_s rfl rfl rfl rfl, ?_⟩)); exact trivial, by (repeat (refine ⟨by first | exact ⟨rfl, rfl, rfl⟩, ?_⟩)); exact trivial, by rfl, by exact pin_0⟩)
        | false =>
          cases p2 : (l.b == (r0 : Int)) with
          | true =>
            rw [p1, p2, Bool.false_or, if_pos rfl] at hs1
            ((repeat' (first
    | (show SQ _ _ _ _ _ _ _ _; first | apply sq_nil | (apply q_move; exact rfl; exact rfl) | (apply q_assign; exact rfl; exact rfl) | (apply q_pick_f; (iterate 3 exact rfl); exact (by first | assumption | exact rfl)) | (apply q_fieldAddr; exact rfl; exact rfl; exact (ty rfl); iterate 4 exact rfl) | (apply q_lenl; exact rfl; exact rfl; exact (ty rfl); exact rfl) | (apply q_add; iterate 3 exact rfl) | (apply q_eql; iterate 3 exact rfl) | (apply q_lss; iterate 3 exact rfl) | (apply q_ixl; (iterate 3 exact rfl); exact (ty rfl); (iterate 3 exact rfl); exact (by first | omega | (simp; done) | (simp; omega)); exact (by first | omega | (simp; done) | (simp; omega))) | (apply q_ld1p; exact rfl; exact rfl; exact (ty rfl); exact rfl; exact rfl; exact (by first | rfl | assumption | ((try simp only [Nat.zero_add]); refine List.getElem?_set_self ?_; (try simp only [List.length_set]); assumption)); exact rfl) | (apply q_g; (iterate 3 exact rfl); exact (by assumption)))
    | (show AW _ _ _ _ _ _ _ _; first | refine aw_region ?_ | (refine aw_seqk ?_; intro K hK) | refine aw_block ?_ | (apply aw_cond_t; exact rfl; exact (by assumption)) | refine aw_skip ?_)
    | refine thn_n ?_
    | (refine hK _ _ _ ?_; clear hK K)
    | refine inb_n ?_)); all_goals (repeat (clear hK K)))
            all_goals (refine ⟨j + 1, fun z => z, d4, by omega, ?_⟩; (try dsimp only); rw [hs1, ← hs, ← hw]; exact ⟨by (repeat (refine ⟨by first | exact lk_i rfl rfl | exact lk_r rfl rfl rfl | exact lk_s rfl rfl rfl rfl, ?_⟩)); exact trivial, by (repeat (refine ⟨by first | exact ⟨rfl, rfl, rfl⟩, ?_⟩)); exact trivial, by rfl, by exact pin_0⟩)
          | false =>
            rw [p1, p2, Bool.false_or, if_neg (by simp)] at hs1
            ((repeat' (first
    | (show SQ _ _ _ _ _ _ _ _; first | apply sq_nil | (apply q_move; exact rfl; exact rfl) | (apply q_assign; exact rfl; exact rfl) | (apply q_pick_f; (iterate 3 exact rfl); exact (by first | assumption | exact rfl)) | (apply q_fieldAddr; exact rfl; exact rfl; exact (ty rfl); iterate 4 exact rfl) | (apply q_lenl; exact rfl; exact rfl; exact (ty rfl); exact rfl) | (apply q_add; iterate 3 exact rfl) | (apply q_eql; iterate 3 exact rfl) | (apply q_lss; iterate 3 exact rfl) | (apply q_ixl; (iterate 3 exact rfl); exact (ty rfl); (iterate 3 exact rfl); exact (by first | omega | (simp; done) | (simp; omega)); exact (by first | omega | (simp; done) | (simp; omega))) | (apply q_ld1p; exact rfl; exact rfl; exact (ty rfl); exact rfl; exact rfl; exact (by first | rfl | assumption | ((try simp only [Nat.zero_add]); refine List.getElem?_set_self ?_; (try simp only [List.length_set]); assumption)); exact rfl) | (apply q_g; (iterate 3 exact rfl); exact (by assumption)))
    | (show AW _ _ _ _ _ _ _ _; first | refine aw_region ?_ | (refine aw_seqk ?_; intro K hK) | refine aw_block ?_ | (apply aw_cond_t; exact rfl; exact (by assumption)) | (apply aw_cond_f; exact rfl; exact (by assumption)) | refine aw_skip ?_)
    | refine thn_n ?_
    | (refine hK _ _ _ ?_; clear hK K)
    | refine inb_n ?_)); all_goals (repeat (clear hK K)))
            all_goals (refine ⟨j + 1, fun z => z, d4, by omega, ?_⟩; (try dsimp only); rw [hs1, ← hw]; exact ⟨by (repeat (refine ⟨by first | exact lk_i rfl rfl | exact lk_r rfl rfl rfl | exact lk_s rfl rfl rfl rfl, ?_⟩)); exact trivial, by (repeat (refine ⟨by first | exact ⟨rfl, rfl, rfl⟩, ?_⟩)); exact trivial, by rfl, by exact pin_0⟩)
      · have f4 : decide ((j : Int) < (ls.length : Int)) = false := by simpa using d4
        obtain rfl : j = ls.length := by omega
        rw [hsum]
        ((repeat' (first
    | (show SQ _ _ _ _ _ _ _ _; first | apply sq_nil | (apply q_move; exact rfl; exact rfl) | (apply q_assign; exact rfl; exact rfl) | (apply q_lenl; exact rfl; exact rfl; exact (ty rfl); exact rfl) | (apply q_eql; iterate 3 exact rfl) | (apply q_lss; iterate 3 exact rfl))
    | (show SQ _ _ _ _ _ _ _ _; (first | (apply q_callU; (iterate 3 exact rfl); rotate_left; exact hSm _; rotate_right; focus ((repeat' (first | exact FzL.nil | exact (by assumption : FzC _) _ | refine FzL.cons ?_ ?_ | exact Fz.of rfl | exact Fz.nil | exact Fz.emp | (apply Fz.fnC; assumption) | (apply Fz.sl2; exact rfl; exact (by first | omega | (simp; done) | (simp; omega)); first | exact rfl | exact dt_full (by first | omega | (simp; done) | (simp; omega)) | assumption) | apply Fz.agg | (apply Fz.ptrL; exact rfl; first | exact rfl | assumption) | apply Fz.fnL)); done))); (try simp only [put, rowsOf, plR, selE, ovr, setH, del, cellsA, splice, isV, spq, if_true, if_false]))
    | (show AW _ _ _ _ _ _ _ _; first | refine aw_region ?_ | (refine aw_seqk ?_; intro K hK) | (apply aw_cond_f; exact rfl; exact (by assumption)) | refine aw_ret ?_ | refine aw_exit ?_)
    | refine thn_n ?_
    | (refine hK _ _ _ ?_; clear hK K)
    | refine thn_e ?_
    | refine inb_same ?_
    | (clear hK K; refine hK _ _ _ ?_; clear hK K))); all_goals (repeat (clear hK K)))
        all_goals exact fin_r (fin_b rfl (by simp))
  | false =>
    rw [hit] at hIO
    rcases hLo with ⟨e, he, hLo⟩ | ⟨ld, hld, hd, hr, hw0, hsum, hLo⟩
    · have b1 : (e != 0) = true := by simpa using he
      ((repeat' (first
    | (show SQ _ _ _ _ _ _ _ _; first | apply sq_nil | (apply q_move; exact rfl; exact rfl) | (apply q_assign; exact rfl; exact rfl) | (apply q_ext; iterate 3 exact rfl) | (apply q_lenn; exact rfl; exact rfl; exact (ty rfl); exact rfl) | (apply q_eql; iterate 3 exact rfl) | (apply q_neq; iterate 3 exact rfl) | (apply q_lss; iterate 3 exact rfl))
    | (show SQ _ _ _ _ _ _ _ _; (first | (apply q_ldap; exact rfl; exact rfl; exact (ty rfl); exact rfl; exact rfl; exact (by first | rfl | assumption | ((try simp only [Nat.zero_add]); refine List.getElem?_set_self ?_; (try simp only [List.length_set]); assumption)); exact rfl) | (apply q_callU; (iterate 3 exact rfl); rotate_left; exact hLo _; rotate_right; focus ((repeat' (first | exact FzL.nil | exact (by assumption : FzC _) _ | refine FzL.cons ?_ ?_ | exact Fz.of rfl | exact Fz.nil | exact Fz.emp | (apply Fz.fnC; assumption) | (apply Fz.sl2; exact rfl; exact (by first | omega | (simp; done) | (simp; omega)); first | exact rfl | exact dt_full (by first | omega | (simp; done) | (simp; omega)) | assumption) | apply Fz.agg | (apply Fz.ptrL; exact rfl; first | exact rfl | assumption) | apply Fz.fnL)); done))); (try simp only [put, rowsOf, plR, selE, ovr, setH, del, cellsA, splice, isV, spq, if_true, if_false]))
    | (show DE _ _ _ _ _ _ _ _ _ _ _ _; first | (apply e_move; iterate 3 exact rfl) | (apply e_pick_f; (iterate 3 exact rfl); exact (by first | assumption | exact rfl); exact rfl) | (apply e_lss; iterate 4 exact rfl) | (apply e_geq; iterate 4 exact rfl) | (apply e_g; (iterate 3 exact rfl); exact (by assumption)) | (apply e_s; (iterate 3 exact rfl); exact (by assumption); exact rfl))
    | (show DE _ _ _ _ _ _ _ _ _ _ _ _; (first | (apply dr_nil; exact trivial) | (apply e_ldap; exact rfl; exact rfl; exact (ty rfl); exact rfl; exact rfl; exact (by first | rfl | assumption | ((try simp only [Nat.zero_add]); refine List.getElem?_set_self ?_; (try simp only [List.length_set]); assumption)); exact rfl; exact rfl) | (apply e_callU; (iterate 3 exact rfl); rotate_left; exact hIO _; exact rfl; rotate_right; focus ((repeat' (first | exact FzL.nil | exact (by assumption : FzC _) _ | refine FzL.cons ?_ ?_ | exact Fz.of rfl | exact Fz.nil | exact Fz.emp | (apply Fz.fnC; assumption) | (apply Fz.sl2; exact rfl; exact (by first | omega | (simp; done) | (simp; omega)); first | exact rfl | exact dt_full (by first | omega | (simp; done) | (simp; omega)) | assumption) | apply Fz.agg | (apply Fz.ptrL; exact rfl; first | exact rfl | assumption) | apply Fz.fnL)); done))); (try simp only [put, rowsOf, plR, selE, ovr, setH, del, cellsA, splice, isV, spq, if_true, if_false]))
    | (show AW _ _ _ _ _ _ _ _; first | refine aw_region ?_ | (refine aw_seqk ?_; intro K hK) | (apply aw_cond_f; exact rfl; exact rfl) | (apply aw_cond_t; exact rfl; exact (by assumption)) | (apply aw_cond_f; exact rfl; exact (by assumption)) | refine aw_ret ?_ | refine aw_exit ?_ | refine aw_skip ?_ | refine aw_drawE (id := 27) [0, 1, 3, 7, 7, 31, 63, 127, 255, 255, 1023, 2047, 4095, 8191, 4095, 32767, 65535, 131071, 4095, 266239, 4095, 1839103, 3936255, 8130559, 16777215, 33554431, 67108863] [0, 0, 0, 0, 0, 0, 0, 0, 1, 0, 1, 0, 0, 1, 0, 1, 0, 1, 0, 1, 0, 1, 0, 1, 0, 0, 0] mixed (by kernel_rfl) ?_)
    | refine thn_n ?_
    | (refine hK _ _ _ ?_; clear hK K)
    | refine thn_e ?_
    | refine thn_r ?_
    | refine inb_same ?_
    | (clear hK K; refine hK _ _ _ ?_; clear hK K))); all_goals (repeat (clear hK K)))
      all_goals exact fin_r (fin_b rfl rfl)
    · obtain ⟨r0, rfl⟩ : ∃ r0 : Nat, root = r0 := ⟨root.toNat, by omega⟩
      have hrd : r0 < d.length := by omega
      have hrow3 : (d.map inL)[0 + ((r0 : Int)).toNat]? = some (inL (d.getD r0 0)) := by simp [hrd, List.getD]
      rw [inL_eq] at hrow3
      have b2 : ((ls.length : Int) != (ls.length : Int)) = false := by simp
      have b3 : ((d.length : Int) != n) = false := by simpa using hd
      have b4 : decide ((r0 : Int) < 0) = false := by rw [decide_eq_false_iff_not]; omega
      have b5 : decide ((r0 : Int) ≥ n) = false := by simp; omega
      have hSm := b10Sum_ro d (by omega)
      have hldm : (ld.map inL).length = ls.length := by rw [List.length_map, hld]
      rw [Int.toNat_natCast] at hw0
      ((repeat' (first
    | (show SQ _ _ _ _ _ _ _ _; first | apply sq_nil | (apply q_move; exact rfl; exact rfl) | (apply q_assign; exact rfl; exact rfl) | (apply q_pick_f; (iterate 3 exact rfl); exact (by first | assumption | exact rfl)) | (apply q_fieldAddr; exact rfl; exact rfl; exact (ty rfl); iterate 4 exact rfl) | (apply q_ext; iterate 3 exact rfl) | (apply q_lenl; exact rfl; exact rfl; exact (ty rfl); exact rfl) | (apply q_neq; iterate 3 exact rfl) | (apply q_lss; iterate 3 exact rfl) | (apply q_geq; iterate 3 exact rfl) | (apply q_ixl; (iterate 3 exact rfl); exact (ty rfl); (iterate 3 exact rfl); exact (by first | omega | (simp; done) | (simp; omega)); exact (by first | omega | (simp; done) | (simp; omega))) | (apply q_ld1p; exact rfl; exact rfl; exact (ty rfl); exact rfl; exact rfl; exact (by first | rfl | assumption | ((try simp only [Nat.zero_add]); refine List.getElem?_set_self ?_; (try simp only [List.length_set]); assumption)); exact rfl) | (apply q_g; (iterate 3 exact rfl); exact (by assumption)))
    | (show SQ _ _ _ _ _ _ _ _; (first | (apply q_ldap; exact rfl; exact rfl; exact (ty rfl); exact rfl; exact rfl; exact (by first | rfl | assumption | ((try simp only [Nat.zero_add]); refine List.getElem?_set_self ?_; (try simp only [List.length_set]); assumption)); exact rfl) | (apply q_callU; (iterate 3 exact rfl); rotate_left; exact hLo _; rotate_right; focus ((repeat' (first | exact FzL.nil | exact (by assumption : FzC _) _ | refine FzL.cons ?_ ?_ | exact Fz.of rfl | exact Fz.nil | exact Fz.emp | (apply Fz.fnC; assumption) | (apply Fz.sl2; exact rfl; exact (by first | omega | (simp; done) | (simp; omega)); first | exact rfl | exact dt_full (by first | omega | (simp; done) | (simp; omega)) | assumption) | apply Fz.agg | (apply Fz.ptrL; exact rfl; first | exact rfl | assumption) | apply Fz.fnL)); done))); (try simp only [put, rowsOf, plR, selE, ovr, setH, del, cellsA, splice, isV, spq, if_true, if_false]))
    | (show DE _ _ _ _ _ _ _ _ _ _ _ _; first | (apply e_move; iterate 3 exact rfl) | (apply e_pick_f; (iterate 3 exact rfl); exact (by first | assumption | exact rfl); exact rfl) | (apply e_lss; iterate 4 exact rfl) | (apply e_geq; iterate 4 exact rfl) | (apply e_g; (iterate 3 exact rfl); exact (by assumption)) | (apply e_s; (iterate 3 exact rfl); exact (by assumption); exact rfl))
    | (show DE _ _ _ _ _ _ _ _ _ _ _ _; (first | (apply dr_nil; exact trivial) | (apply e_ldap; exact rfl; exact rfl; exact (ty rfl); exact rfl; exact rfl; exact (by first | rfl | assumption | ((try simp only [Nat.zero_add]); refine List.getElem?_set_self ?_; (try simp only [List.length_set]); assumption)); exact rfl; exact rfl) | (apply e_callU; (iterate 3 exact rfl); rotate_left; exact hIO _; exact rfl; rotate_right; focus ((repeat' (first | exact FzL.nil | exact (by assumption : FzC _) _ | refine FzL.cons ?_ ?_ | exact Fz.of rfl | exact Fz.nil | exact Fz.emp | (apply Fz.fnC; assumption) | (apply Fz.sl2; exact rfl; exact (by first | omega | (simp; done) | (simp; omega)); first | exact rfl | exact dt_full (by first | omega | (simp; done) | (simp; omega)) | assumption) | apply Fz.agg | (apply Fz.ptrL; exact rfl; first | exact rfl | assumption) | apply Fz.fnL)); done))); (try simp only [put, rowsOf, plR, selE, ovr, setH, del, cellsA, splice, isV, spq, if_true, if_false]))
    | (show AW _ _ _ _ _ _ _ _; first | refine aw_region ?_ | (refine aw_seqk ?_; intro K hK) | refine aw_block ?_ | (apply aw_cond_f; exact rfl; exact rfl) | (apply aw_cond_f; exact rfl; exact (by assumption)) | refine aw_exit ?_ | refine aw_skip ?_ | refine aw_drawE (id := 27) [0, 1, 3, 7, 7, 31, 63, 127, 255, 255, 1023, 2047, 4095, 8191, 4095, 32767, 65535, 131071, 4095, 266239, 4095, 1839103, 3936255, 8130559, 16777215, 33554431, 67108863] [0, 0, 0, 0, 0, 0, 0, 0, 1, 0, 1, 0, 0, 1, 0, 1, 0, 1, 0, 1, 0, 1, 0, 1, 0, 0, 0] mixed (by kernel_rfl) ?_)
    | refine thn_n ?_
    | (refine hK _ _ _ ?_; clear hK K)
    | refine thn_e ?_
    | refine inb_same ?_
    | (clear hK K; refine hK _ _ _ ?_; clear hK K))); all_goals (repeat (clear hK K)))
      refine aw_loop (ρ := fun z => if z = 3 then 5 else z) (ι := Nat) (fun i => ([(22, .v (.int .i64 i)), (21, .v (.int .i64 (IntKind.i64.wrap (sumR ls (r0 : Int) d ld i)))), (19, .sl 3 0 ls.length), (8, .sl 1 0 d.length), (7, .v (.int .i64 (r0 : Int))), (5, .ptr 2 0 0)],
          [(0, ⟨56, 4, true, ls.map lnL⟩), (1, ⟨2, 1, true, d.map inL⟩), (2, ⟨31, 2, false, [[.v (.int .i64 n), .sl 0 0 ls.length]]⟩), (3, ⟨2, 1, true, ld.map inL⟩)], 4))
        (fun i => i ≤ ls.length) (fun i => ls.length - i) 0 (Nat.zero_le _) (by rw [show IntKind.i64.wrap (sumR ls (r0 : Int) d ld 0) = d.getD r0 0 from hw0]; exact ⟨by (repeat (refine ⟨by first | exact lk_i rfl rfl | exact lk_r rfl rfl rfl | exact lk_s rfl rfl rfl rfl, ?_⟩)); exact trivial, by (repeat (refine ⟨by first | exact ⟨rfl, rfl, rfl⟩, ?_⟩)); exact trivial, by rfl, by exact pin_0⟩) ?_
      intro j hj
      by_cases d4 : j < ls.length
      · have f4 : decide ((j : Int) < (ls.length : Int)) = true := by simpa using d4
        have hw : IntKind.i64.wrap ((j : Int) + 1) = ((j + 1 : Nat) : Int) := by rw [IntWalk.i64_in _ (by omega)]; omega
        have hrow4 : (ls.map lnL)[0 + ((j : Int)).toNat]? = some (lnL (ls.getD j lnz)) := by simp [d4, List.getD]
        have hrow5 : (ld.map inL)[0 + ((j : Int)).toNat]? = some (inL (ld.getD j 0)) := by simp [List.getD, hld, d4]
        rw [inL_eq] at hrow5
        have hs := wrap_add (sumR ls (r0 : Int) d ld j) (ld.getD j 0)
        have hs1 : sumR ls (r0 : Int) d ld (j + 1) = if adjB (r0 : Int) (ls.getD j lnz) = true then sumR ls (r0 : Int) d ld j + ld.getD j 0 else sumR ls (r0 : Int) d ld j := rfl
        unfold adjB at hs1
        generalize ls.getD j lnz = l at *
        cases p1 : (l.a == (r0 : Int)) with
        | true =>
          rw [p1, Bool.true_or, if_pos rfl] at hs1
          ((repeat' (first
    | (show SQ _ _ _ _ _ _ _ _; first | apply sq_nil | (apply q_move; exact rfl; exact rfl) | (apply q_assign; exact rfl; exact rfl) | (apply q_pick_t; (iterate 3 exact rfl); exact (by first | assumption | exact rfl)) | (apply q_fieldAddr; exact rfl; exact rfl; exact (ty rfl); iterate 4 exact rfl) | (apply q_lenl; exact rfl; exact rfl; exact (ty rfl); exact rfl) | (apply q_add; iterate 3 exact rfl) | (apply q_eql; iterate 3 exact rfl) | (apply q_lss; iterate 3 exact rfl) | (apply q_ixl; (iterate 3 exact rfl); exact (ty rfl); (iterate 3 exact rfl); exact (by first | omega | (simp; done) | (simp; omega)); exact (by first | omega | (simp; done) | (simp; omega))) | (apply q_ld1p; exact rfl; exact rfl; exact (ty rfl); exact rfl; exact rfl; exact (by first | rfl | assumption | ((try simp only [Nat.zero_add]); refine List.getElem?_set_self ?_; (try simp only [List.length_set]); assumption)); exact rfl) | (apply q_s; (iterate 3 exact rfl); exact (by assumption); exact rfl))
    | (show AW _ _ _ _ _ _ _ _; first | refine aw_region ?_ | (refine aw_seqk ?_; intro K hK) | refine aw_block ?_ | (apply aw_cond_t; exact rfl; exact rfl) | (apply aw_cond_t; exact rfl; exact (by assumption)) | refine aw_skip ?_)
    | refine thn_n ?_
    | (refine hK _ _ _ ?_; clear hK K)
    | refine inb_n ?_)); all_goals (repeat (clear hK K)))
          all_goals (refine ⟨j + 1, fun z => z, d4, by omega, ?_⟩; (try dsimp only); rw [hs1, ← hs, ← hw]; exact ⟨by (repeat (refine ⟨by first | exact lk_i rfl rfl | exact lk_r rfl rfl rfl | exact lk_s rfl rfl rfl rfl, ?_⟩)); exact trivial, by (repeat (refine ⟨by first | exact ⟨rfl, rfl, rfl⟩, ?_⟩)); exact trivial, by rfl, by exact pin_0⟩)
        | false =>
          cases p2 : (l.b == (r0 : Int)) with
          | true =>
            rw [p1, p2, Bool.false_or, if_pos rfl] at hs1
            ((repeat' (first
    | (show SQ _ _ _ _ _ _ _ _; first | apply sq_nil | (apply q_move; exact rfl; exact rfl) | (apply q_assign; exact rfl; exact rfl) | (apply q_pick_f; (iterate 3 exact rfl); exact (by first | assumption | exact rfl)) | (apply q_fieldAddr; exact rfl; exact rfl; exact (ty rfl); iterate 4 exact rfl) | (apply q_lenl; exact rfl; exact rfl; exact (ty rfl); exact rfl) | (apply q_add; iterate 3 exact rfl) | (apply q_eql; iterate 3 exact rfl) | (apply q_lss; iterate 3 exact rfl) | (apply q_ixl; (iterate 3 exact rfl); exact (ty rfl); (iterate 3 exact rfl); exact (by first | omega | (simp; done) | (simp; omega)); exact (by first | omega | (simp; done) | (simp; omega))) | (apply q_ld1p; exact rfl; exact rfl; exact (ty rfl); exact rfl; exact rfl; exact (by first | rfl | assumption | ((try simp only [Nat.zero_add]); refine List.getElem?_set_self ?_; (try simp only [List.length_set]); assumption)); exact rfl) | (apply q_g; (iterate 3 exact rfl); exact (by assumption)))
    | (show AW _ _ _ _ _ _ _ _; first | refine aw_region ?_ | (refine aw_seqk ?_; intro K hK) | refine aw_block ?_ | (apply aw_cond_t; exact rfl; exact (by assumption)) | refine aw_skip ?_)
    | refine thn_n ?_
    | (refine hK _ _ _ ?_; clear hK K)
    | refine inb_n ?_)); all_goals (repeat (clear hK K)))
            all_goals (refine ⟨j + 1, fun z => z, d4, by omega, ?_⟩; (try dsimp only); rw [hs1, ← hs, ← hw]; exact ⟨by (repeat (refine ⟨by first | exact lk_i rfl rfl | exact lk_r rfl rfl rfl | exact lk_s rfl rfl rfl rfl, ?_⟩)); exact trivial, by (repeat (refine ⟨by first | exact ⟨rfl, rfl, rfl⟩, ?_⟩)); exact trivial, by rfl, by exact pin_0⟩)
          | false =>
            rw [p1, p2, Bool.false_or, if_neg (by simp)] at hs1
            ((repeat' (first
    | (show SQ _ _ _ _ _ _ _ _; first | apply sq_nil | (apply q_move; exact rfl; exact rfl) | (apply q_assign; exact rfl; exact rfl) | (apply q_pick_f; (iterate 3 exact rfl); exact (by first | assumption | exact rfl)) | (apply q_fieldAddr; exact rfl; exact rfl; exact (ty rfl); iterate 4 exact rfl) | (apply q_lenl; exact rfl; exact rfl; exact (ty rfl); exact rfl) | (apply q_add; iterate 3 exact rfl) | (apply q_eql; iterate 3 exact rfl) | (apply q_lss; iterate 3 exact rfl) | (apply q_ixl; (iterate 3 exact rfl); exact (ty rfl); (iterate 3 exact rfl); exact (by first | omega | (simp; done) | (simp; omega)); exact (by first | omega | (simp; done) | (simp; omega))) | (apply q_ld1p; exact rfl; exact rfl; exact (ty rfl); exact rfl; exact rfl; exact (by first | rfl | assumption | ((try simp only [Nat.zero_add]); refine List.getElem?_set_self ?_; (try simp only [List.length_set]); assumption)); exact rfl) | (apply q_g; (iterate 3 exact rfl); exact (by assumption)))
    | (show AW _ _ _ _ _ _ _ _; first | refine aw_region ?_ | (refine aw_seqk ?_; intro K hK) | refine aw_block ?_ | (apply aw_cond_t; exact rfl; exact (by assumption)) | (apply aw_cond_f; exact rfl; exact (by assumption)) | refine aw_skip ?_)
    | refine thn_n ?_
    | (refine hK _ _ _ ?_; clear hK K)
    | refine inb_n ?_)); all_goals (repeat (clear hK K)))
            all_goals (refine ⟨j + 1, fun z => z, d4, by omega, ?_⟩; (try dsimp only); rw [hs1, ← hw]; exact ⟨by (repeat (refine ⟨by first | exact lk_i rfl rfl | exact lk_r rfl rfl rfl | exact lk_s rfl rfl rfl rfl, ?_⟩)); exact trivial, by (repeat (refine ⟨by first | exact ⟨rfl, rfl, rfl⟩, ?_⟩)); exact trivial, by rfl, by exact pin_0⟩)
      · have f4 : decide ((j : Int) < (ls.length : Int)) = false := by simpa using d4
        obtain rfl : j = ls.length := by omega
        rw [hsum]
        ((repeat' (first
    | (show SQ _ _ _ _ _ _ _ _; first | apply sq_nil | (apply q_move; exact rfl; exact rfl) | (apply q_assign; exact rfl; exact rfl) | (apply q_lenl; exact rfl; exact rfl; exact (ty rfl); exact rfl) | (apply q_eql; iterate 3 exact rfl) | (apply q_lss; iterate 3 exact rfl))
    | (show SQ _ _ _ _ _ _ _ _; (first | (apply q_callU; (iterate 3 exact rfl); rotate_left; exact hSm _; rotate_right; focus ((repeat' (first | exact FzL.nil | exact (by assumption : FzC _) _ | refine FzL.cons ?_ ?_ | exact Fz.of rfl | exact Fz.nil | exact Fz.emp | (apply Fz.fnC; assumption) | (apply Fz.sl2; exact rfl; exact (by first | omega | (simp; done) | (simp; omega)); first | exact rfl | exact dt_full (by first | omega | (simp; done) | (simp; omega)) | assumption) | apply Fz.agg | (apply Fz.ptrL; exact rfl; first | exact rfl | assumption) | apply Fz.fnL)); done))); (try simp only [put, rowsOf, plR, selE, ovr, setH, del, cellsA, splice, isV, spq, if_true, if_false]))
    | (show AW _ _ _ _ _ _ _ _; first | refine aw_region ?_ | (refine aw_seqk ?_; intro K hK) | (apply aw_cond_f; exact rfl; exact (by assumption)) | refine aw_ret ?_ | refine aw_exit ?_)
    | refine thn_n ?_
    | (refine hK _ _ _ ?_; clear hK K)
    | refine thn_e ?_
    | refine inb_same ?_
    | (clear hK K; refine hK _ _ _ ?_; clear hK K))); all_goals (repeat (clear hK K)))
        all_goals exact fin_r (fin_b rfl (by simp))
end Go.Proofs.Ytglfcaioapdiaaa.Bk

namespace Go.Proofs.Ytglfcaioapdiaaa.Bk
open Go Go.RowKit Go.Proofs.Ytglfcaioapdiaaa.Aw Go.Proofs.Ytglfcaioapdiaaa.Sr
set_option linter.unusedSimpArgs false
set_option linter.unusedVariables false
attribute [local irreducible] AW SQ Step RO RC DE Thn InB
set_option maxHeartbeats 4000000 in
theorem lawFnTrees_ro (cs ms : List Int) (hc : ∀ b ∈ cs, 0 ≤ b ∧ b ≤ 255) (hnc : cs.length ≤ 9223372036854775807) (hm : ∀ b ∈ ms, 0 ≤ b ∧ b ≤ 255) (hnm : ms.length ≤ 9223372036854775807) (k : Nat) : RO Try.prog 11 [.dsl 1 (byL cs), .dsl 1 (byL ms)] k (.v (.bool true)) [] k := by
  have hLong := b10Long_ro cs
  have hLong2 := b10Long_ro ms
  by_cases c0 : 1048576 < (cs.length : Int)
  · rw [decide_eq_true c0] at hLong
    refine RO.ofv' Try.func11 Try.ntmps11 rfl (goFn_of Try.func11 rfl (by kernel_rfl)) rfl rfl ?_
    ((repeat' (first
    | (show SQ _ _ _ _ _ _ _ _; first | apply sq_nil | (apply q_move; exact rfl; exact rfl) | (apply q_assign; exact rfl; exact rfl) | (apply q_pick_t; (iterate 3 exact rfl); exact (by first | assumption | exact rfl)) | (apply q_s; iterate 5 exact rfl))
    | (show SQ _ _ _ _ _ _ _ _; (first | (apply q_callU; (iterate 3 exact rfl); exact FzL.of rfl; exact hLong _)); (try simp only [put, rowsOf, plR, selE, ovr, setH, del, cellsA, splice, isV, spq, if_true, if_false]))
    | (show AW _ _ _ _ _ _ _ _; first | refine aw_region ?_ | (refine aw_seqk ?_; intro K hK) | (apply aw_cond_t; exact rfl; exact rfl) | refine aw_ret ?_)
    | refine thn_n ?_
    | (refine hK _ _ _ ?_; clear hK K)
    | refine thn_r ?_)); all_goals (repeat (clear hK K)))
    all_goals exact fin_r (fin_b rfl rfl)
  rw [decide_eq_false c0] at hLong
  by_cases c1 : 1048576 < (ms.length : Int)
  · rw [decide_eq_true c1] at hLong2
    refine RO.ofv' Try.func11 Try.ntmps11 rfl (goFn_of Try.func11 rfl (by kernel_rfl)) rfl rfl ?_
    ((repeat' (first
    | (show SQ _ _ _ _ _ _ _ _; first | apply sq_nil | (apply q_move; exact rfl; exact rfl) | (apply q_assign; exact rfl; exact rfl) | (apply q_pick_f; (iterate 3 exact rfl); exact (by first | assumption | exact rfl)) | (apply q_g; iterate 4 exact rfl))
    | (show SQ _ _ _ _ _ _ _ _; (first | (apply q_callU; (iterate 3 exact rfl); exact FzL.of rfl; exact hLong _) | (apply q_callU; (iterate 3 exact rfl); exact FzL.of rfl; exact hLong2 _)); (try simp only [put, rowsOf, plR, selE, ovr, setH, del, cellsA, splice, isV, spq, if_true, if_false]))
    | (show AW _ _ _ _ _ _ _ _; first | refine aw_region ?_ | (refine aw_seqk ?_; intro K hK) | (apply aw_cond_t; exact rfl; exact rfl) | refine aw_ret ?_)
    | refine thn_n ?_
    | (refine hK _ _ _ ?_; clear hK K)
    | refine thn_r ?_)); all_goals (repeat (clear hK K)))
    all_goals exact fin_r (fin_b rfl rfl)
  rw [decide_eq_false c1] at hLong2
  obtain ⟨n, ls, zs, root, d, hnb, hle, hdl, hD⟩ := DrawLoadsOf_ex cs hc hnc
  have hn : ls.length ≤ 1048576 := by omega
  cases hb : bkB n ls with
  | false =>
    have hS := implSpan_bad_ro n ls hn hb
    unfold bkL at hS
    refine RO.ofv' Try.func11 Try.ntmps11 rfl (goFn_of Try.func11 rfl (by kernel_rfl)) rfl rfl ?_
    ((repeat' (first
    | (show SQ _ _ _ _ _ _ _ _; first | apply sq_nil | (apply q_move; exact rfl; exact rfl) | (apply q_assign; exact rfl; exact rfl) | (apply q_pick_f; (iterate 3 exact rfl); exact (by first | assumption | exact rfl)) | (apply q_ext; iterate 3 exact rfl) | (apply q_lenn; exact rfl; exact rfl; exact (ty rfl); exact rfl) | (apply q_eql; iterate 3 exact rfl) | (apply q_neq; iterate 3 exact rfl) | (apply q_g; iterate 4 exact rfl))
    | (show SQ _ _ _ _ _ _ _ _; (first | (apply q_ldap; exact rfl; exact rfl; exact (ty rfl); exact rfl; exact rfl; exact (by first | rfl | assumption | ((try simp only [Nat.zero_add]); refine List.getElem?_set_self ?_; (try simp only [List.length_set]); assumption)); exact rfl) | (apply q_alloc; exact rfl; exact (ty rfl); exact rfl; exact rfl) | (apply q_store; exact rfl; exact rfl; exact (ty rfl); exact rfl; exact (by first | rfl | assumption | ((try simp only [Nat.zero_add]); refine List.getElem?_set_self ?_; (try simp only [List.length_set]); assumption)); iterate 3 exact rfl) | (apply q_callU; (iterate 3 exact rfl); exact FzL.of rfl; exact hLong _) | (apply q_callU; (iterate 3 exact rfl); exact FzL.of rfl; exact hLong2 _) | (apply q_callU; (iterate 3 exact rfl); rotate_left; exact hS _; rotate_right; focus ((repeat' (first | exact FzL.nil | exact (by assumption : FzC _) _ | refine FzL.cons ?_ ?_ | exact Fz.of rfl | exact Fz.nil | exact Fz.emp | (apply Fz.fnC; assumption) | (apply Fz.sl2; exact rfl; exact (by first | omega | (simp; done) | (simp; omega)); first | exact rfl | exact dt_full (by first | omega | (simp; done) | (simp; omega)) | assumption) | apply Fz.agg | (apply Fz.ptrL; exact rfl; first | exact rfl | assumption) | apply Fz.fnL)); done)) | (apply q_callC; (iterate 3 exact rfl); exact hD _; (focus ((repeat (first | exact trivial | refine ⟨by first | exact rfl | assumption, ?_⟩)); done)); skip)); (try simp only [put, rowsOf, plR, selE, ovr, setH, del, cellsA, splice, isV, spq, if_true, if_false]))
    | (show AW _ _ _ _ _ _ _ _; first | refine aw_region ?_ | (refine aw_seqk ?_; intro K hK) | (apply aw_cond_t; exact rfl; exact rfl) | (apply aw_cond_f; exact rfl; exact rfl) | refine aw_ret ?_ | refine aw_skip ?_)
    | refine thn_n ?_
    | (refine hK _ _ _ ?_; clear hK K)
    | refine thn_r ?_)); all_goals (repeat (clear hK K)))
    all_goals exact fin_r (fin_b rfl rfl)
  | true =>
    by_cases hl : ((treK n ls).length : Int) = n - 1
    · obtain ⟨hN, hL⟩ := bkB_in hb
      have hS := implSpan_okR n ls hn hle hb hl
      have hit := srt_tree hb hN hL hl
      have hTr := srt_Tr hb hN hL hl
      have hTl : (So.srt (treK n ls)).length ≤ ls.length := by rw [So.srt_len]; exact treK_le n ls
      have hT := implIsTree_ro n ls (So.srt (treK n ls)) hn (by omega)
      have e1 : itV n ls (So.srt (treK n ls)) = true := by unfold itV; rw [hb, hit]; rfl
      rw [e1] at hT
      have hC := implCrit_ok_ro n ls hn hb
      have hmem : ∀ x, x ∈ So.srt (treK n ls) ↔ x ∈ treK n ls := fun x => (srt_up (treK_nd n ls)).2.mem_iff
      have hrg : ∀ x ∈ So.srt (treK n ls), 0 ≤ x ∧ x < ls.length := fun x hx => treK_rg n ls x ((hmem x).1 hx)
      have hCT : ∀ i, (h : i < (selI (crB n ls) ls.length).length) → ((So.srt (treK n ls)).any fun y => y == (selI (crB n ls) ls.length)[i]) = true := fun i h => by
        have hx := List.getElem_mem h
        obtain ⟨j, hj, e⟩ := List.mem_map.1 hx
        obtain ⟨hj1, hj2⟩ := List.mem_filter.1 hj
        rw [← e]
        exact crit_in hb hN hL hl (List.mem_range.1 hj1) hj2
      have hex : ∀ o x : Int, o ∈ So.srt (treK n ls) → 0 ≤ x → x < ls.length → itV n ls (selI (othP (So.srt (treK n ls)) o x) ls.length) = true → (lnAt ls o).o ≤ (lnAt ls x).o := fun o x ho hx0 hx1 hi => by
        have hi2 : isT n ls (selI (othP (So.srt (treK n ls)) o x) ls.length) = true := by unfold itV at hi; rw [hb] at hi; exact hi
        have := exch hb hN hL hl ((hmem o).1 ho) ⟨hx0, hx1⟩ (other := selI (othP (So.srt (treK n ls)) o x) ls.length) (fun y => ?_) hi2
        · unfold kO at this; unfold lnAt; omega
        · constructor
          · intro hy
            have h1 := selI_in hy
            obtain ⟨j, hj, e⟩ := List.mem_map.1 hy
            obtain ⟨hj1, hj2⟩ := List.mem_filter.1 hj
            unfold othP at hj2
            rw [e] at hj2
            simp only [Bool.and_eq_true, bne_iff_ne, ne_eq, Bool.or_eq_true, beq_iff_eq] at hj2
            refine ⟨h1.1, h1.2, hj2.1, ?_⟩
            rcases hj2.2 with h | h
            · exact .inl ((hmem y).1 (any_mem.1 h))
            · exact .inr h
          · rintro ⟨h0, h1, h2, h3⟩
            refine List.mem_map.2 ⟨y.toNat, List.mem_filter.2 ⟨List.mem_range.2 (by omega), ?_⟩, by omega⟩
            unfold othP
            rw [Int.toNat_of_nonneg h0]
            simp only [Bool.and_eq_true, bne_iff_ne, ne_eq, Bool.or_eq_true, beq_iff_eq]
            refine ⟨h2, ?_⟩
            rcases h3 with h | h
            · exact .inl (any_mem.2 ((hmem y).2 h))
            · exact .inr h
      have hS : ∀ k, RO Try.prog 31 [.agg (bkL n ls)] k (.tup [.sl k 0 (So.srt (treK n ls)).length, .v (.int .i64 0)]) [(k, ⟨2, 1, true, (So.srt (treK n ls)).map inL⟩)] (k + 1) := fun k => by
        have := hS k
        rw [So.srt_len]; exact this
      have hCl := selI_len (crB n ls) ls.length
      generalize So.srt (treK n ls) = T at *
      generalize selI (crB n ls) ls.length = C at *
      by_cases c2 : codeV n ls [root] = 0
      · have hroot : 0 ≤ root ∧ root < n := by
          rw [codeV_one, hb, if_pos rfl] at c2
          cases h : inB root 0 (n - 1) with
          | true => simp [inB] at h; omega
          | false => rw [h] at c2; simp at c2
        cases hmB : dmB n d with
        | false =>
          have hLo := implLoads_rng_ro n ls T root d hn (by omega) (by omega) c2 hmB
          by_cases ht : T.length = 0
          · exact trees_none cs ms hm (by omega) (by omega) hle hdl hD hS hT hC hTl hrg hCl hCT (.inl ⟨2, by decide, hLo⟩) ht k
          · exact trees_some cs ms hm (by omega) (by omega) hle hdl hD hS hT hC hTl hrg hCl hCT (.inl ⟨2, by decide, hLo⟩) (by omega) hex k
        | true =>
          have hLo := implLoads_ok_ro n ls T root d hn (by omega) (by omega) c2 hroot hmB hTr hit
          have hm2 := hmB
          unfold dmB at hm2
          simp only [Bool.and_eq_true, beq_iff_eq, Bool.not_eq_true', List.any_eq_false] at hm2
          obtain ⟨hdn, hda⟩ := hm2
          have hsum := loads_sum hTr hroot d hdn
          have hw0 : IntKind.i64.wrap (d.getD root.toNat 0) = d.getD root.toNat 0 := by
            have hx : root.toNat < d.length := by omega
            have := hda _ (List.getElem_mem hx)
            have e : d.getD root.toNat 0 = d[root.toNat] := by simp [List.getD, hx]
            rw [e]
            refine IntWalk.i64_in _ ?_
            simp [inB] at this
            omega
          have hlen : (rm ls.length (loF n ls T root d T.length)).length = ls.length := by simp [rm]
          generalize rm ls.length (loF n ls T root d T.length) = ld at *
          by_cases ht : T.length = 0
          · exact trees_none cs ms hm (by omega) (by omega) hle hdl hD hS hT hC hTl hrg hCl hCT (.inr ⟨ld, hlen, hdn, hroot, hw0, hsum, hLo⟩) ht k
          · exact trees_some cs ms hm (by omega) (by omega) hle hdl hD hS hT hC hTl hrg hCl hCT (.inr ⟨ld, hlen, hdn, hroot, hw0, hsum, hLo⟩) (by omega) hex k
      · have hLo := implLoads_bad_ro n ls T root d hn (by omega) (by omega) c2
        by_cases ht : T.length = 0
        · exact trees_none cs ms hm (by omega) (by omega) hle hdl hD hS hT hC hTl hrg hCl hCT (.inl ⟨_, c2, hLo⟩) ht k
        · exact trees_some cs ms hm (by omega) (by omega) hle hdl hD hS hT hC hTl hrg hCl hCT (.inl ⟨_, c2, hLo⟩) (by omega) hex k
    · have hS := implSpan_none n ls hn hle hb hl
      unfold bkL at hS
      refine RO.ofv' Try.func11 Try.ntmps11 rfl (goFn_of Try.func11 rfl (by kernel_rfl)) rfl rfl ?_
      ((repeat' (first
    | (show SQ _ _ _ _ _ _ _ _; first | apply sq_nil | (apply q_move; exact rfl; exact rfl) | (apply q_assign; exact rfl; exact rfl) | (apply q_pick_f; (iterate 3 exact rfl); exact (by first | assumption | exact rfl)) | (apply q_ext; iterate 3 exact rfl) | (apply q_lenn; exact rfl; exact rfl; exact (ty rfl); exact rfl) | (apply q_eql; iterate 3 exact rfl) | (apply q_neq; iterate 3 exact rfl) | (apply q_g; iterate 4 exact rfl))
    | (show SQ _ _ _ _ _ _ _ _; (first | (apply q_ldap; exact rfl; exact rfl; exact (ty rfl); exact rfl; exact rfl; exact (by first | rfl | assumption | ((try simp only [Nat.zero_add]); refine List.getElem?_set_self ?_; (try simp only [List.length_set]); assumption)); exact rfl) | (apply q_alloc; exact rfl; exact (ty rfl); exact rfl; exact rfl) | (apply q_store; exact rfl; exact rfl; exact (ty rfl); exact rfl; exact (by first | rfl | assumption | ((try simp only [Nat.zero_add]); refine List.getElem?_set_self ?_; (try simp only [List.length_set]); assumption)); iterate 3 exact rfl) | (apply q_callU; (iterate 3 exact rfl); exact FzL.of rfl; exact hLong _) | (apply q_callU; (iterate 3 exact rfl); exact FzL.of rfl; exact hLong2 _) | (apply q_callU; (iterate 3 exact rfl); rotate_left; exact hS _; rotate_right; focus ((repeat' (first | exact FzL.nil | exact (by assumption : FzC _) _ | refine FzL.cons ?_ ?_ | exact Fz.of rfl | exact Fz.nil | exact Fz.emp | (apply Fz.fnC; assumption) | (apply Fz.sl2; exact rfl; exact (by first | omega | (simp; done) | (simp; omega)); first | exact rfl | exact dt_full (by first | omega | (simp; done) | (simp; omega)) | assumption) | apply Fz.agg | (apply Fz.ptrL; exact rfl; first | exact rfl | assumption) | apply Fz.fnL)); done)) | (apply q_callC; (iterate 3 exact rfl); exact hD _; (focus ((repeat (first | exact trivial | refine ⟨by first | exact rfl | assumption, ?_⟩)); done)); skip)); (try simp only [put, rowsOf, plR, selE, ovr, setH, del, cellsA, splice, isV, spq, if_true, if_false]))
    | (show AW _ _ _ _ _ _ _ _; first | refine aw_region ?_ | (refine aw_seqk ?_; intro K hK) | (apply aw_cond_t; exact rfl; exact rfl) | (apply aw_cond_f; exact rfl; exact rfl) | refine aw_ret ?_ | refine aw_skip ?_)
    | refine thn_n ?_
    | (refine hK _ _ _ ?_; clear hK K)
    | refine thn_r ?_)); all_goals (repeat (clear hK K)))
      all_goals exact fin_r (fin_b rfl rfl)
theorem closeFnTrees (v u : Value) (w : World) (h : Fr.IsBytes w v) (h2 : Fr.IsBytes w u) : Calls Try.prog 11 #[v, u] w fun r w' => r = .returned (.bool true) ∧ Below w.heap.size w w' := by
  obtain ⟨xs, hv, hs, hn⟩ := h
  obtain ⟨ys, hv2, hs2, hn2⟩ := h2
  exact RO.calls (k := 0) (lawFnTrees_ro xs ys hs hn hs2 hn2 0) (K := fun k => k < w.heap.size) (fun _ h => h) (VRs.cons hv (VRs.cons hv2 VRs.nil))
end Go.Proofs.Ytglfcaioapdiaaa.Bk
