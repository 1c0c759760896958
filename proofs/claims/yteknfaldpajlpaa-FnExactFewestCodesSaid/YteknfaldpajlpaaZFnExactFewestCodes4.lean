/-
  What the law FnExactFewestCodes rests on, part 4.
-/
import Derived.Test.YteknfaldpajlpaaZFnExactFewestCodes3
namespace Go.Proofs.Yteknfaldpajlpaa.Nb
open Go Go.RowKit Go.Proofs.Yteknfaldpajlpaa.Aw Go.Proofs.Yteknfaldpajlpaa.In Go.Proofs.Yteknfaldpajlpaa.Il
set_option linter.unusedSimpArgs false
set_option linter.unusedVariables false
set_option linter.unusedSectionVars false
attribute [local irreducible] AW SQ Step RO RC DE Thn InB
def exR (ls : List (List Int)) (b : Int) (id len : Nat) : List (List AV) := [[.dsl 1 (nbL ls), .v (.int .i64 b), .sl id 0 len]]
section
variable (ls : List (List Int)) (hS : NbS ls) (m : Int) (hm : 0 ≤ m ∧ m ≤ 100)
include hS hm
set_option maxHeartbeats 4000000 in
theorem ext_rc : ∀ (r : Nat) (used : Int) (st : Int × List Int), r ≤ ls.length → ls.length ≤ 24 → 0 ≤ used → used ≤ ((ls.length - r : Nat) : Int) → 0 ≤ st.1 → st.1 ≤ 20000 → ls.length - r ≤ st.2.length → (r = 0 → st.2.length = ls.length) → ∀ (b c : Nat), b ≠ c → ∀ k,
    RC Try.prog 54 [.ptr b 0 0, .v (.int .i64 m), .v (.int .i64 used)] [(b, ⟨73, 3, false, exR ls st.1 c (ls.length - r)⟩), (c, ⟨2, 1, true, st.2.map inL⟩)] k (.v (.bool (ext ls m r used st).1))
      [(b, some ⟨73, 3, false, exR ls (ext ls m r used st).2.1 k (if (ext ls m r used st).1 = true then ls.length else ls.length - r)⟩), (c, none), (k, some ⟨2, 1, true, (ext ls m r used st).2.2.map inL⟩)] (k + 1)
  | 0, used, st, hr, hN, u0, u1, s0, s1, hl, h0, b, c, hbc, k => by
    have hll := nbL_len ls
    have b1 : (((ls.length - 0 : Nat) : Int) == ((nbL ls).length : Int)) = true := by rw [hll]; simp
    show RC Try.prog _ _ _ k (.v (.bool true)) [(b, some ⟨73, 3, false, exR ls st.1 k ls.length⟩), (c, none), (k, some ⟨2, 1, true, st.2.map inL⟩)] (k + 1)
    unfold exR
    refine RC.ofc [b, c] 1 [.ptr 0 0 0, .v (.int .i64 m), .v (.int .i64 used)] [(0, ⟨73, 3, false, [[.dsl 1 (nbL ls), .v (.int .i64 st.1), .sl 1 0 (ls.length - 0)]]⟩), (1, ⟨2, 1, true, st.2.map inL⟩)] (.v (.bool true)) [(0, some ⟨73, 3, false, [[.dsl 1 (nbL ls), .v (.int .i64 st.1), .sl 2 0 ls.length]]⟩), (1, none), (2, some ⟨2, 1, true, st.2.map inL⟩)] Try.func54 Try.ntmps54 rfl (goFn_of Try.func54 rfl (by kernel_rfl)) rfl rfl rfl rfl rfl rfl rfl rfl (by simp_all) rfl ?_
    ((repeat' (first
    | (show SQ _ _ _ _ _ _ _ _; first | apply sq_nil | (apply q_assign; exact rfl; exact rfl))
    | (show DE _ _ _ _ _ _ _ _ _ _ _ _; first | (apply e_move; exact rfl; exact rfl; exact rfl) | (apply e_fieldAddr; exact rfl; exact rfl; exact (ty rfl); exact rfl; exact rfl; exact rfl; exact rfl; exact rfl) | (apply e_nilc; exact rfl; exact rfl; exact rfl; exact rfl) | (apply e_lend; exact rfl; exact rfl; exact (ty rfl); exact rfl; exact rfl) | (apply e_lenl; exact rfl; exact rfl; exact (ty rfl); exact rfl; exact rfl) | (apply e_eql; exact rfl; exact rfl; exact rfl; exact rfl) | (apply e_ld1p; exact rfl; exact rfl; exact (ty rfl); exact rfl; exact rfl; exact (by first | rfl | assumption | ((try simp only [Nat.zero_add]); refine List.getElem?_set_self ?_; (try simp only [List.length_set]); assumption)); exact rfl; exact rfl))
    | (show DE _ _ _ _ _ _ _ _ _ _ _ _; (first | (apply dr_nil; exact trivial)); (try simp only [put, rowsOf, plR, List.all_cons, selE, ovr, setH, del, cellsA, splice, isV, List.nil_append, List.cons_append, List.map_cons, List.map_nil, List.length_cons, List.length_nil, List.set_cons_zero, List.set_cons_succ, List.take_succ_cons, List.take_zero, List.take_nil, List.drop_succ_cons, List.drop_zero, List.drop_nil, List.append_nil, List.all_cons, List.all_nil, Bool.and_true, Bool.true_and, Bool.and_false, Bool.false_and, Nat.reduceAdd, Nat.zero_add, Nat.add_zero, Nat.reduceEqDiff, if_true, if_false, reduceIte]))
    | (show AW _ _ _ _ _ _ _ _; first | refine aw_region ?_ | (refine aw_seqk ?_; intro K hK) | (apply aw_cond_t; exact rfl; exact (by assumption)) | refine aw_ret ?_ | refine aw_drawE (id := 1) [0, 1, 3, 7, 15, 0, 32, 96, 224, 480, 1023] [0, 0, 0, 1, 0, 0, 0, 0, 1, 0, 0] mixed (by kernel_rfl) ?_)
    | refine thn_n ?_
    | (refine hK _ _ _ ?_; clear hK K)
    | refine thn_r ?_)); all_goals (repeat (clear hK K)))
    all_goals exact finc (mv 2 1) (.r1 _ _ (.tmp _ _ rfl)) rfl (fun z hz => by simp at hz; simp [mv]; omega) ⟨rfl, rfl, trivial⟩ rfl
  | r + 1, used, st, hr, hN, u0, u1, s0, s1, hl, h0, b, c, hbc, k => by
    have ih := ext_rc r
    have hll := nbL_len ls
    have hkp := fun q1 q2 q3 q4 q5 => ext_keep (ls := ls) (m := m) r q1 q2 q3 q4 q5
    have b1 : (((ls.length - (r + 1) : Nat) : Int) == ((nbL ls).length : Int)) = false := by rw [hll]; simp only [beq_eq_false_iff_ne, ne_eq]; omega
    have hQ : ext ls m (r + 1) used st = extG (ext ls m r) ls (ls.length - (r + 1)) used (extN m used) 0 st := rfl
    rw [hQ]
    generalize hlen : ls.length - (r + 1) = len at *
    have hlen1 : ls.length - r = len + 1 := by omega
    have hK : extN m used = (min m (used + 1)).toNat := rfl
    have hwu : IntKind.i64.wrap (used + 1) = used + 1 := IntWalk.i64_in _ (by omega)
    generalize extN m used = KK at *
    generalize hQQ : extG (ext ls m r) ls len used KK 0 st = Q
    unfold exR
    refine RC.ofc [b, c] 1 [.ptr 0 0 0, .v (.int .i64 m), .v (.int .i64 used)] [(0, ⟨73, 3, false, [[.dsl 1 (nbL ls), .v (.int .i64 st.1), .sl 1 0 len]]⟩), (1, ⟨2, 1, true, st.2.map inL⟩)] (.v (.bool Q.1)) [(0, some ⟨73, 3, false, [[.dsl 1 (nbL ls), .v (.int .i64 Q.2.1), .sl 2 0 (if Q.1 = true then ls.length else len)]]⟩), (1, none), (2, some ⟨2, 1, true, Q.2.2.map inL⟩)] Try.func54 Try.ntmps54 rfl (goFn_of Try.func54 rfl (by kernel_rfl)) rfl rfl rfl rfl rfl rfl rfl rfl (by simp_all) rfl ?_
    ((repeat' (first
    | (show SQ _ _ _ _ _ _ _ _; first | apply sq_nil | (apply q_assign; exact rfl; exact rfl))
    | (show DE _ _ _ _ _ _ _ _ _ _ _ _; first | (apply e_move; exact rfl; exact rfl; exact rfl) | (apply e_fieldAddr; exact rfl; exact rfl; exact (ty rfl); exact rfl; exact rfl; exact rfl; exact rfl; exact rfl) | (apply e_nilc; exact rfl; exact rfl; exact rfl; exact rfl) | (apply e_lend; exact rfl; exact rfl; exact (ty rfl); exact rfl; exact rfl) | (apply e_lenl; exact rfl; exact rfl; exact (ty rfl); exact rfl; exact rfl) | (apply e_eql; exact rfl; exact rfl; exact rfl; exact rfl) | (apply e_ld1p; exact rfl; exact rfl; exact (ty rfl); exact rfl; exact rfl; exact (by first | rfl | assumption | ((try simp only [Nat.zero_add]); refine List.getElem?_set_self ?_; (try simp only [List.length_set]); assumption)); exact rfl; exact rfl))
    | (show DE _ _ _ _ _ _ _ _ _ _ _ _; (first | (apply dr_nil; exact trivial)); (try simp only [put, rowsOf, plR, List.all_cons, selE, ovr, setH, del, cellsA, splice, isV, List.nil_append, List.cons_append, List.map_cons, List.map_nil, List.length_cons, List.length_nil, List.set_cons_zero, List.set_cons_succ, List.take_succ_cons, List.take_zero, List.take_nil, List.drop_succ_cons, List.drop_zero, List.drop_nil, List.append_nil, List.all_cons, List.all_nil, Bool.and_true, Bool.true_and, Bool.and_false, Bool.false_and, Nat.reduceAdd, Nat.zero_add, Nat.add_zero, Nat.reduceEqDiff, if_true, if_false, reduceIte]))
    | (show AW _ _ _ _ _ _ _ _; first | refine aw_region ?_ | (refine aw_seqk ?_; intro K hK) | refine aw_block ?_ | (apply aw_cond_f; exact rfl; exact (by assumption)) | refine aw_skip ?_ | refine aw_drawE (id := 1) [0, 1, 3, 7, 15, 0, 32, 96, 224, 480, 1023] [0, 0, 0, 1, 0, 0, 0, 0, 1, 0, 0] mixed (by kernel_rfl) ?_)
    | refine thn_n ?_
    | (refine hK _ _ _ ?_; clear hK K))); all_goals (repeat (clear hK K)))
    show AW _ _ 2 _ _ _ _ _
    refine aw_loop (ρ := mv 2 1) (ι := Nat × (Int × List Int)) (fun s => ([(7, .v (.int .i64 (s.1 : Int))), (2, .v (.int .i64 used)), (1, .v (.int .i64 m)), (0, .ptr 0 0 0)],
        [(0, ⟨73, 3, false, [[.dsl 1 (nbL ls), .v (.int .i64 s.2.1), .sl 2 0 len]]⟩), (2, ⟨2, 1, true, s.2.2.map inL⟩)], 3))
      (fun s => s.1 ≤ KK ∧ 0 ≤ s.2.1 ∧ s.2.1 ≤ 20000 ∧ len ≤ s.2.2.length ∧ extG (ext ls m r) ls len used (KK - s.1) s.1 s.2 = Q) (fun s => KK - s.1) (0, st) ⟨Nat.zero_le _, s0, s1, hl, hQQ⟩ ⟨by (repeat (refine ⟨by first | exact lk_i rfl rfl | exact lk_r rfl rfl rfl, ?_⟩)); exact trivial, by (repeat (refine ⟨by first | exact ⟨rfl, rfl, rfl⟩, ?_⟩)); exact trivial, by rfl, by (intro i hi; (try dsimp only); refine ⟨?_, ?_⟩ <;> first | rfl | omega | (simp [mv]; omega))⟩ ?_
    rintro ⟨x, bu, bf⟩ ⟨hx, t0, t1, tl, hg⟩
    dsimp only at hx t0 t1 tl hg
    by_cases c1 : x < KK
    · have d1 : decide ((x : Int) < mnI m (IntKind.i64.wrap (used + 1))) = true := by
        rw [hwu, decide_eq_true_eq, mnI]; split <;> omega
      have hw : IntKind.i64.wrap ((x : Int) + 1) = ((x + 1 : Nat) : Int) := by rw [IntWalk.i64_in _ (by omega)]; omega
      have hw2 : IntKind.i64.wrap ((x : Int) + 1) = (x : Int) + 1 := IntWalk.i64_in _ (by omega)
      have hwb : IntKind.i64.wrap (bu - 1) = bu - 1 := IntWalk.i64_in _ (by omega)
      have htl : (bf.take len).length = len := by rw [List.length_take]; omega
      have hE := clashesEarlier_ro ls hS (bf.take len) (x : Int) (by omega)
      have hml : (bf.map inL).length = bf.length := List.length_map _
      have hdt : ((bf.map inL).drop 0).take len = (bf.take len).map inL := by rw [List.drop_zero, List.map_take]
      obtain ⟨j, hj⟩ : ∃ j, KK - x = j + 1 := ⟨KK - x - 1, by omega⟩
      have hj2 : KK - (x + 1) = j := by omega
      rw [hj, extG] at hg
      cases c2 : earB ls (bf.take len) (x : Int) with
      | true =>
        rw [c2] at hE hg
        rw [if_pos rfl] at hg
        ((repeat' (first
    | (show SQ _ _ _ _ _ _ _ _; first | apply sq_nil | (apply q_move; exact rfl; exact rfl) | (apply q_assign; exact rfl; exact rfl) | (apply q_min; exact rfl; exact rfl; exact rfl) | (apply q_add; exact rfl; exact rfl; exact rfl) | (apply q_lss; exact rfl; exact rfl; exact rfl))
    | (show DE _ _ _ _ _ _ _ _ _ _ _ _; first | (apply e_move; exact rfl; exact rfl; exact rfl) | (apply e_fieldAddr; exact rfl; exact rfl; exact (ty rfl); exact rfl; exact rfl; exact rfl; exact rfl; exact rfl) | (apply e_nilc; exact rfl; exact rfl; exact rfl; exact rfl) | (apply e_ld1p; exact rfl; exact rfl; exact (ty rfl); exact rfl; exact rfl; exact (by first | rfl | assumption | ((try simp only [Nat.zero_add]); refine List.getElem?_set_self ?_; (try simp only [List.length_set]); assumption)); exact rfl; exact rfl))
    | (show DE _ _ _ _ _ _ _ _ _ _ _ _; (first | (apply dr_nil; exact trivial) | (apply e_callU; exact rfl; exact rfl; exact rfl; rotate_left; exact hE _; exact rfl; rotate_right; focus ((repeat' (first | exact FzL.nil | exact (by assumption : FzC _) _ | refine FzL.cons ?_ ?_ | exact Fz.of rfl | exact Fz.nil | exact Fz.emp | (apply Fz.fnC; assumption) | (apply Fz.sl2; exact rfl; exact (by first | omega | (simp; done) | (simp; omega)); first | exact rfl | exact dt_full (by first | omega | (simp; done) | (simp; omega)) | assumption) | apply Fz.agg | (apply Fz.ptrL; exact rfl; first | exact rfl | assumption) | apply Fz.fnL)); done))); (try simp only [put, rowsOf, plR, List.all_cons, selE, ovr, setH, del, cellsA, splice, isV, List.nil_append, List.cons_append, List.map_cons, List.map_nil, List.length_cons, List.length_nil, List.set_cons_zero, List.set_cons_succ, List.take_succ_cons, List.take_zero, List.take_nil, List.drop_succ_cons, List.drop_zero, List.drop_nil, List.append_nil, List.all_cons, List.all_nil, Bool.and_true, Bool.true_and, Bool.and_false, Bool.false_and, Nat.reduceAdd, Nat.zero_add, Nat.add_zero, Nat.reduceEqDiff, if_true, if_false, reduceIte]))
    | (show AW _ _ _ _ _ _ _ _; first | refine aw_region ?_ | (refine aw_seqk ?_; intro K hK) | refine aw_block ?_ | (apply aw_cond_t; exact rfl; exact rfl) | (apply aw_cond_t; exact rfl; exact (by assumption)) | refine aw_exit ?_ | refine aw_skip ?_ | refine aw_drawE (id := 6) [0, 1, 3, 7, 0, 16, 48, 112, 0, 511] [0, 0, 0, 1, 0, 0, 0, 1, 0, 1] mixed (by kernel_rfl) ?_)
    | refine thn_n ?_
    | (refine hK _ _ _ ?_; clear hK K)
    | refine thn_e ?_
    | refine inb_same ?_
    | (clear hK K; refine hK _ _ _ ?_; clear hK K))); all_goals (repeat (clear hK K)))
        all_goals (refine ⟨(x + 1, (bu, bf)), id, ⟨c1, t0, t1, tl, by rw [hj2]; exact hg⟩, by dsimp only; omega, ?_⟩; (try dsimp only); rw [← hw]; exact ⟨by (repeat (refine ⟨by first | exact lk_i rfl rfl | exact lk_r rfl rfl rfl, ?_⟩)); exact trivial, by (repeat (refine ⟨by first | exact ⟨rfl, rfl, rfl⟩, ?_⟩)); exact trivial, by rfl, by (intro i hi; (try dsimp only); refine ⟨?_, ?_⟩ <;> first | rfl | omega | (simp at hi; omega) | (simp; omega))⟩)
      | false =>
        rw [c2] at hE hg
        rw [if_neg (by simp)] at hg
        dsimp only at hg
        by_cases c3 : bu - 1 < 0
        · have d3 : decide (IntKind.i64.wrap (bu - 1) < 0) = true := by rw [hwb]; simpa using c3
          rw [if_pos c3] at hg
          subst hg
          ((repeat' (first
    | (show SQ _ _ _ _ _ _ _ _; first | apply sq_nil | (apply q_move; exact rfl; exact rfl) | (apply q_assign; exact rfl; exact rfl) | (apply q_fieldAddr; exact rfl; exact rfl; exact (ty rfl); exact rfl; exact rfl; exact rfl; exact rfl) | (apply q_nilc; exact rfl; exact rfl; exact rfl) | (apply q_min; exact rfl; exact rfl; exact rfl) | (apply q_add; exact rfl; exact rfl; exact rfl) | (apply q_sub; exact rfl; exact rfl; exact rfl) | (apply q_lss; exact rfl; exact rfl; exact rfl) | (apply q_ld1p; exact rfl; exact rfl; exact (ty rfl); exact rfl; exact rfl; exact (by first | rfl | assumption | ((try simp only [Nat.zero_add]); refine List.getElem?_set_self ?_; (try simp only [List.length_set]); assumption)); exact rfl))
    | (show SQ _ _ _ _ _ _ _ _; (first | (apply q_store; exact rfl; exact rfl; exact (ty rfl); exact rfl; exact (by first | rfl | assumption | ((try simp only [Nat.zero_add]); refine List.getElem?_set_self ?_; (try simp only [List.length_set]); assumption)); exact rfl; exact rfl; exact rfl)); (try simp only [put, rowsOf, plR, List.all_cons, selE, ovr, setH, del, cellsA, splice, isV, List.nil_append, List.cons_append, List.map_cons, List.map_nil, List.length_cons, List.length_nil, List.set_cons_zero, List.set_cons_succ, List.take_succ_cons, List.take_zero, List.take_nil, List.drop_succ_cons, List.drop_zero, List.drop_nil, List.append_nil, List.all_cons, List.all_nil, Bool.and_true, Bool.true_and, Bool.and_false, Bool.false_and, Nat.reduceAdd, Nat.zero_add, Nat.add_zero, Nat.reduceEqDiff, if_true, if_false, reduceIte]))
    | (show DE _ _ _ _ _ _ _ _ _ _ _ _; first | (apply e_move; exact rfl; exact rfl; exact rfl) | (apply e_fieldAddr; exact rfl; exact rfl; exact (ty rfl); exact rfl; exact rfl; exact rfl; exact rfl; exact rfl) | (apply e_nilc; exact rfl; exact rfl; exact rfl; exact rfl) | (apply e_ld1p; exact rfl; exact rfl; exact (ty rfl); exact rfl; exact rfl; exact (by first | rfl | assumption | ((try simp only [Nat.zero_add]); refine List.getElem?_set_self ?_; (try simp only [List.length_set]); assumption)); exact rfl; exact rfl))
    | (show DE _ _ _ _ _ _ _ _ _ _ _ _; (first | (apply dr_nil; exact trivial) | (apply e_callU; exact rfl; exact rfl; exact rfl; rotate_left; exact hE _; exact rfl; rotate_right; focus ((repeat' (first | exact FzL.nil | exact (by assumption : FzC _) _ | refine FzL.cons ?_ ?_ | exact Fz.of rfl | exact Fz.nil | exact Fz.emp | (apply Fz.fnC; assumption) | (apply Fz.sl2; exact rfl; exact (by first | omega | (simp; done) | (simp; omega)); first | exact rfl | exact dt_full (by first | omega | (simp; done) | (simp; omega)) | assumption) | apply Fz.agg | (apply Fz.ptrL; exact rfl; first | exact rfl | assumption) | apply Fz.fnL)); done))); (try simp only [put, rowsOf, plR, List.all_cons, selE, ovr, setH, del, cellsA, splice, isV, List.nil_append, List.cons_append, List.map_cons, List.map_nil, List.length_cons, List.length_nil, List.set_cons_zero, List.set_cons_succ, List.take_succ_cons, List.take_zero, List.take_nil, List.drop_succ_cons, List.drop_zero, List.drop_nil, List.append_nil, List.all_cons, List.all_nil, Bool.and_true, Bool.true_and, Bool.and_false, Bool.false_and, Nat.reduceAdd, Nat.zero_add, Nat.add_zero, Nat.reduceEqDiff, if_true, if_false, reduceIte]))
    | (show AW _ _ _ _ _ _ _ _; first | refine aw_region ?_ | (refine aw_seqk ?_; intro K hK) | refine aw_block ?_ | (apply aw_cond_f; exact rfl; exact rfl) | (apply aw_cond_t; exact rfl; exact (by assumption)) | refine aw_ret ?_ | refine aw_skip ?_ | refine aw_drawE (id := 6) [0, 1, 3, 7, 0, 16, 48, 112, 0, 511] [0, 0, 0, 1, 0, 0, 0, 1, 0, 1] mixed (by kernel_rfl) ?_)
    | refine thn_n ?_
    | (refine hK _ _ _ ?_; clear hK K)
    | refine thn_r ?_
    | refine inb_r ?_)); all_goals (repeat (clear hK K)))
          all_goals exact finc id (.r1 _ _ (.tmp _ _ rfl)) rfl (fun z hz => rfl) ⟨(by rw [hwb]; rfl), rfl, trivial⟩ rfl
        · have d3 : decide (IntKind.i64.wrap (bu - 1) < 0) = false := by rw [hwb]; simpa using c3
          rw [if_neg c3] at hg
          have hmx : mxI used (IntKind.i64.wrap ((x : Int) + 1)) = max used ((x : Int) + 1) := by rw [hw2, mxI]; split <;> omega
          have hb2 : (bf.take len ++ [(x : Int)]).map inL = (bf.map inL).take len ++ [[.v (.int .i64 (x : Int))]] := by rw [List.map_append, List.map_take]; rfl
          have hii := ih (mxI used (IntKind.i64.wrap ((x : Int) + 1))) (IntKind.i64.wrap (bu - 1), bf.take len ++ [(x : Int)]) (by omega) hN (by rw [hmx]; omega) (by rw [hmx, hlen1]; omega) (by rw [hwb]; dsimp only; omega) (by rw [hwb]; dsimp only; omega) (by rw [hlen1]; simp [htl]) (fun h => by simp [htl]; omega) 0 4 (by decide)
          have hkk := hkp (mxI used (IntKind.i64.wrap ((x : Int) + 1))) (IntKind.i64.wrap (bu - 1), bf.take len ++ [(x : Int)]) (by omega) (by rw [hwb]; dsimp only; omega) (by rw [hlen1]; simp [htl]) (fun h => by simp [htl]; omega)
          rw [hlen1] at hii hkk
          dsimp only at hii
          rw [hb2] at hii
          have hqq : ext ls m r (mxI used (IntKind.i64.wrap ((x : Int) + 1))) (IntKind.i64.wrap (bu - 1), bf.take len ++ [(x : Int)]) = ext ls m r (max used ((x : Int) + 1)) (bu - 1, bf.take len ++ [(x : Int)]) := by rw [hmx, hwb]
          rw [← hqq] at hg
          generalize ext ls m r (mxI used (IntKind.i64.wrap ((x : Int) + 1))) (IntKind.i64.wrap (bu - 1), bf.take len ++ [(x : Int)]) = q at *
          obtain ⟨qo, qb, qf⟩ := q
          have kl := hkk.le
          have kb := hkk.bud
          dsimp only at hg hii kl kb
          have hqm : (qf.map inL).length = qf.length := List.length_map _
          unfold exR at hii
          cases qo with
          | true =>
            rw [if_pos rfl] at hg
            rw [if_pos rfl] at hii
            subst hg
            ((repeat' (first
    | (show SQ _ _ _ _ _ _ _ _; first | apply sq_nil | (apply q_move; exact rfl; exact rfl) | (apply q_assign; exact rfl; exact rfl) | (apply q_fieldAddr; exact rfl; exact rfl; exact (ty rfl); exact rfl; exact rfl; exact rfl; exact rfl) | (apply q_nilc; exact rfl; exact rfl; exact rfl) | (apply q_max; exact rfl; exact rfl; exact rfl) | (apply q_min; exact rfl; exact rfl; exact rfl) | (apply q_add; exact rfl; exact rfl; exact rfl) | (apply q_sub; exact rfl; exact rfl; exact rfl) | (apply q_lss; exact rfl; exact rfl; exact rfl) | (apply q_ld1p; exact rfl; exact rfl; exact (ty rfl); exact rfl; exact rfl; exact (by first | rfl | assumption | ((try simp only [Nat.zero_add]); refine List.getElem?_set_self ?_; (try simp only [List.length_set]); assumption)); exact rfl))
    | (show SQ _ _ _ _ _ _ _ _; (first | (apply q_store; exact rfl; exact rfl; exact (ty rfl); exact rfl; exact (by first | rfl | assumption | ((try simp only [Nat.zero_add]); refine List.getElem?_set_self ?_; (try simp only [List.length_set]); assumption)); exact rfl; exact rfl; exact rfl) | (apply q_buildn; exact rfl; exact (ty rfl); exact rfl; exact rfl; exact rfl; exact rfl; exact rfl; exact rfl; exact rfl) | (apply q_apo_s; exact rfl; exact rfl; exact rfl; exact (ty rfl); exact rfl; exact rfl; exact (by first | omega | (simp; done) | (simp; omega)); exact (by first | exact List.take_of_length_le (by first | omega | (simp; done) | (simp; omega)) | rfl); exact (ty rfl); exact rfl; exact rfl; exact (by first | omega | (simp; done) | (simp; omega)); exact (by first | exact dt_full (by first | omega | (simp; done) | (simp; omega)) | assumption | rfl); exact rfl; exact (by first | omega | (simp; done) | (simp; omega)); exact (by first | omega | (simp; done) | (simp; omega)); exact (by first | assumption | exact rfl)) | (apply q_callC; exact rfl; exact rfl; exact rfl; exact hii _; (focus ((repeat (first | exact trivial | refine ⟨by first | exact rfl | assumption, ?_⟩)); done)); skip)); (try simp only [put, rowsOf, plR, List.all_cons, selE, ovr, setH, del, cellsA, splice, isV, List.nil_append, List.cons_append, List.map_cons, List.map_nil, List.length_cons, List.length_nil, List.set_cons_zero, List.set_cons_succ, List.take_succ_cons, List.take_zero, List.take_nil, List.drop_succ_cons, List.drop_zero, List.drop_nil, List.append_nil, List.all_cons, List.all_nil, Bool.and_true, Bool.true_and, Bool.and_false, Bool.false_and, Nat.reduceAdd, Nat.zero_add, Nat.add_zero, Nat.reduceEqDiff, if_true, if_false, reduceIte]))
    | (show DE _ _ _ _ _ _ _ _ _ _ _ _; first | (apply e_move; exact rfl; exact rfl; exact rfl) | (apply e_fieldAddr; exact rfl; exact rfl; exact (ty rfl); exact rfl; exact rfl; exact rfl; exact rfl; exact rfl) | (apply e_nilc; exact rfl; exact rfl; exact rfl; exact rfl) | (apply e_ld1p; exact rfl; exact rfl; exact (ty rfl); exact rfl; exact rfl; exact (by first | rfl | assumption | ((try simp only [Nat.zero_add]); refine List.getElem?_set_self ?_; (try simp only [List.length_set]); assumption)); exact rfl; exact rfl))
    | (show DE _ _ _ _ _ _ _ _ _ _ _ _; (first | (apply dr_nil; exact trivial) | (apply e_callU; exact rfl; exact rfl; exact rfl; rotate_left; exact hE _; exact rfl; rotate_right; focus ((repeat' (first | exact FzL.nil | exact (by assumption : FzC _) _ | refine FzL.cons ?_ ?_ | exact Fz.of rfl | exact Fz.nil | exact Fz.emp | (apply Fz.fnC; assumption) | (apply Fz.sl2; exact rfl; exact (by first | omega | (simp; done) | (simp; omega)); first | exact rfl | exact dt_full (by first | omega | (simp; done) | (simp; omega)) | assumption) | apply Fz.agg | (apply Fz.ptrL; exact rfl; first | exact rfl | assumption) | apply Fz.fnL)); done))); (try simp only [put, rowsOf, plR, List.all_cons, selE, ovr, setH, del, cellsA, splice, isV, List.nil_append, List.cons_append, List.map_cons, List.map_nil, List.length_cons, List.length_nil, List.set_cons_zero, List.set_cons_succ, List.take_succ_cons, List.take_zero, List.take_nil, List.drop_succ_cons, List.drop_zero, List.drop_nil, List.append_nil, List.all_cons, List.all_nil, Bool.and_true, Bool.true_and, Bool.and_false, Bool.false_and, Nat.reduceAdd, Nat.zero_add, Nat.add_zero, Nat.reduceEqDiff, if_true, if_false, reduceIte]))
    | (show AW _ _ _ _ _ _ _ _; first | refine aw_region ?_ | (refine aw_seqk ?_; intro K hK) | refine aw_block ?_ | (apply aw_cond_t; exact rfl; exact rfl) | (apply aw_cond_f; exact rfl; exact rfl) | (apply aw_cond_t; exact rfl; exact (by assumption)) | (apply aw_cond_f; exact rfl; exact (by assumption)) | refine aw_ret ?_ | refine aw_skip ?_ | refine aw_drawE (id := 6) [0, 1, 3, 7, 0, 16, 48, 112, 0, 511] [0, 0, 0, 1, 0, 0, 0, 1, 0, 1] mixed (by kernel_rfl) ?_)
    | refine thn_n ?_
    | (refine hK _ _ _ ?_; clear hK K)
    | refine thn_r ?_
    | refine inb_r ?_)); all_goals (repeat (clear hK K)))
            all_goals exact finc (mv 2 5) (.r1 _ _ (.tmp _ _ rfl)) rfl (fun z hz => by simp at hz; simp [mv]; omega) ⟨rfl, rfl, trivial⟩ rfl
          | false =>
            rw [if_neg (by simp)] at hg
            rw [if_neg (by simp)] at hii
            have hws : IntKind.i64.wrap (((len + 1 : Nat) : Int) - 1) = (len : Int) := by rw [IntWalk.i64_in _ (by omega)]; omega
            by_cases c4 : qb < 0
            · have d4 : decide (qb < 0) = true := by simpa using c4
              rw [if_pos c4] at hg
              subst hg
              ((repeat' (first
    | (show SQ _ _ _ _ _ _ _ _; first | apply sq_nil | (apply q_move; exact rfl; exact rfl) | (apply q_assign; exact rfl; exact rfl) | (apply q_fieldAddr; exact rfl; exact rfl; exact (ty rfl); exact rfl; exact rfl; exact rfl; exact rfl) | (apply q_nilc; exact rfl; exact rfl; exact rfl) | (apply q_max; exact rfl; exact rfl; exact rfl) | (apply q_min; exact rfl; exact rfl; exact rfl) | (apply q_add; exact rfl; exact rfl; exact rfl) | (apply q_sub; exact rfl; exact rfl; exact rfl) | (apply q_lss; exact rfl; exact rfl; exact rfl) | (apply q_ld1p; exact rfl; exact rfl; exact (ty rfl); exact rfl; exact rfl; exact (by first | rfl | assumption | ((try simp only [Nat.zero_add]); refine List.getElem?_set_self ?_; (try simp only [List.length_set]); assumption)); exact rfl))
    | (show SQ _ _ _ _ _ _ _ _; (first | (apply q_store; exact rfl; exact rfl; exact (ty rfl); exact rfl; exact (by first | rfl | assumption | ((try simp only [Nat.zero_add]); refine List.getElem?_set_self ?_; (try simp only [List.length_set]); assumption)); exact rfl; exact rfl; exact rfl) | (apply q_buildn; exact rfl; exact (ty rfl); exact rfl; exact rfl; exact rfl; exact rfl; exact rfl; exact rfl; exact rfl) | (apply q_apo_s; exact rfl; exact rfl; exact rfl; exact (ty rfl); exact rfl; exact rfl; exact (by first | omega | (simp; done) | (simp; omega)); exact (by first | exact List.take_of_length_le (by first | omega | (simp; done) | (simp; omega)) | rfl); exact (ty rfl); exact rfl; exact rfl; exact (by first | omega | (simp; done) | (simp; omega)); exact (by first | exact dt_full (by first | omega | (simp; done) | (simp; omega)) | assumption | rfl); exact rfl; exact (by first | omega | (simp; done) | (simp; omega)); exact (by first | omega | (simp; done) | (simp; omega)); exact (by first | assumption | exact rfl)) | (apply q_callC; exact rfl; exact rfl; exact rfl; exact hii _; (focus ((repeat (first | exact trivial | refine ⟨by first | exact rfl | assumption, ?_⟩)); done)); skip)); (try simp only [put, rowsOf, plR, List.all_cons, selE, ovr, setH, del, cellsA, splice, isV, List.nil_append, List.cons_append, List.map_cons, List.map_nil, List.length_cons, List.length_nil, List.set_cons_zero, List.set_cons_succ, List.take_succ_cons, List.take_zero, List.take_nil, List.drop_succ_cons, List.drop_zero, List.drop_nil, List.append_nil, List.all_cons, List.all_nil, Bool.and_true, Bool.true_and, Bool.and_false, Bool.false_and, Nat.reduceAdd, Nat.zero_add, Nat.add_zero, Nat.reduceEqDiff, if_true, if_false, reduceIte]))
    | (show DE _ _ _ _ _ _ _ _ _ _ _ _; first | (apply e_move; exact rfl; exact rfl; exact rfl) | (apply e_fieldAddr; exact rfl; exact rfl; exact (ty rfl); exact rfl; exact rfl; exact rfl; exact rfl; exact rfl) | (apply e_nilc; exact rfl; exact rfl; exact rfl; exact rfl) | (apply e_lenl; exact rfl; exact rfl; exact (ty rfl); exact rfl; exact rfl) | (apply e_sub; exact rfl; exact rfl; exact rfl; exact rfl) | (apply e_ld1p; exact rfl; exact rfl; exact (ty rfl); exact rfl; exact rfl; exact (by first | rfl | assumption | ((try simp only [Nat.zero_add]); refine List.getElem?_set_self ?_; (try simp only [List.length_set]); assumption)); exact rfl; exact rfl) | (apply e_ssl_h; exact rfl; exact rfl; exact rfl; exact (ty rfl); exact rfl; exact rfl; exact (by first | omega | (simp; done) | (simp; omega)); exact (by first | omega | (simp; done) | (simp; omega)); exact (by first | omega | (simp; done) | (simp; omega)); exact rfl))
    | (show DE _ _ _ _ _ _ _ _ _ _ _ _; (first | (apply dr_nil; exact trivial) | (apply e_store; exact rfl; exact rfl; exact (ty rfl); exact rfl; exact (by first | rfl | assumption | ((try simp only [Nat.zero_add]); refine List.getElem?_set_self ?_; (try simp only [List.length_set]); assumption)); exact rfl; exact rfl; exact rfl; exact rfl) | (apply e_callU; exact rfl; exact rfl; exact rfl; rotate_left; exact hE _; exact rfl; rotate_right; focus ((repeat' (first | exact FzL.nil | exact (by assumption : FzC _) _ | refine FzL.cons ?_ ?_ | exact Fz.of rfl | exact Fz.nil | exact Fz.emp | (apply Fz.fnC; assumption) | (apply Fz.sl2; exact rfl; exact (by first | omega | (simp; done) | (simp; omega)); first | exact rfl | exact dt_full (by first | omega | (simp; done) | (simp; omega)) | assumption) | apply Fz.agg | (apply Fz.ptrL; exact rfl; first | exact rfl | assumption) | apply Fz.fnL)); done))); (try simp only [put, rowsOf, plR, List.all_cons, selE, ovr, setH, del, cellsA, splice, isV, List.nil_append, List.cons_append, List.map_cons, List.map_nil, List.length_cons, List.length_nil, List.set_cons_zero, List.set_cons_succ, List.take_succ_cons, List.take_zero, List.take_nil, List.drop_succ_cons, List.drop_zero, List.drop_nil, List.append_nil, List.all_cons, List.all_nil, Bool.and_true, Bool.true_and, Bool.and_false, Bool.false_and, Nat.reduceAdd, Nat.zero_add, Nat.add_zero, Nat.reduceEqDiff, if_true, if_false, reduceIte]))
    | (show AW _ _ _ _ _ _ _ _; first | refine aw_region ?_ | (refine aw_seqk ?_; intro K hK) | refine aw_block ?_ | (apply aw_cond_f; exact rfl; exact rfl) | (apply aw_cond_t; exact rfl; exact (by assumption)) | (apply aw_cond_f; exact rfl; exact (by assumption)) | refine aw_ret ?_ | refine aw_skip ?_ | refine aw_drawE (id := 6) [0, 1, 3, 7, 0, 16, 48, 112, 0, 511] [0, 0, 0, 1, 0, 0, 0, 1, 0, 1] mixed (by kernel_rfl) ?_ | refine aw_drawE (id := 13) [0, 0, 2, 6, 14, 0, 32, 96, 224, 480, 992, 2046, 4095, 8191, 16383] [0, 0, 0, 0, 1, 0, 0, 0, 1, 0, 0, 1, 0, 0, 2] mixed (by kernel_rfl) ?_)
    | refine thn_n ?_
    | (refine hK _ _ _ ?_; clear hK K)
    | refine thn_r ?_
    | refine inb_r ?_)); all_goals (repeat (clear hK K)))
              all_goals (try simp only [hws, Int.toNat_natCast])
              all_goals exact finc (mv 2 5) (.r1 _ _ (.tmp _ _ rfl)) rfl (fun z hz => by simp at hz; simp [mv]; omega) ⟨rfl, rfl, trivial⟩ rfl
            · have d4 : decide (qb < 0) = false := by simpa using c4
              rw [if_neg c4] at hg
              ((repeat' (first
    | (show SQ _ _ _ _ _ _ _ _; first | apply sq_nil | (apply q_move; exact rfl; exact rfl) | (apply q_assign; exact rfl; exact rfl) | (apply q_fieldAddr; exact rfl; exact rfl; exact (ty rfl); exact rfl; exact rfl; exact rfl; exact rfl) | (apply q_nilc; exact rfl; exact rfl; exact rfl) | (apply q_max; exact rfl; exact rfl; exact rfl) | (apply q_min; exact rfl; exact rfl; exact rfl) | (apply q_add; exact rfl; exact rfl; exact rfl) | (apply q_sub; exact rfl; exact rfl; exact rfl) | (apply q_lss; exact rfl; exact rfl; exact rfl) | (apply q_ld1p; exact rfl; exact rfl; exact (ty rfl); exact rfl; exact rfl; exact (by first | rfl | assumption | ((try simp only [Nat.zero_add]); refine List.getElem?_set_self ?_; (try simp only [List.length_set]); assumption)); exact rfl))
    | (show SQ _ _ _ _ _ _ _ _; (first | (apply q_store; exact rfl; exact rfl; exact (ty rfl); exact rfl; exact (by first | rfl | assumption | ((try simp only [Nat.zero_add]); refine List.getElem?_set_self ?_; (try simp only [List.length_set]); assumption)); exact rfl; exact rfl; exact rfl) | (apply q_buildn; exact rfl; exact (ty rfl); exact rfl; exact rfl; exact rfl; exact rfl; exact rfl; exact rfl; exact rfl) | (apply q_apo_s; exact rfl; exact rfl; exact rfl; exact (ty rfl); exact rfl; exact rfl; exact (by first | omega | (simp; done) | (simp; omega)); exact (by first | exact List.take_of_length_le (by first | omega | (simp; done) | (simp; omega)) | rfl); exact (ty rfl); exact rfl; exact rfl; exact (by first | omega | (simp; done) | (simp; omega)); exact (by first | exact dt_full (by first | omega | (simp; done) | (simp; omega)) | assumption | rfl); exact rfl; exact (by first | omega | (simp; done) | (simp; omega)); exact (by first | omega | (simp; done) | (simp; omega)); exact (by first | assumption | exact rfl)) | (apply q_callC; exact rfl; exact rfl; exact rfl; exact hii _; (focus ((repeat (first | exact trivial | refine ⟨by first | exact rfl | assumption, ?_⟩)); done)); skip)); (try simp only [put, rowsOf, plR, List.all_cons, selE, ovr, setH, del, cellsA, splice, isV, List.nil_append, List.cons_append, List.map_cons, List.map_nil, List.length_cons, List.length_nil, List.set_cons_zero, List.set_cons_succ, List.take_succ_cons, List.take_zero, List.take_nil, List.drop_succ_cons, List.drop_zero, List.drop_nil, List.append_nil, List.all_cons, List.all_nil, Bool.and_true, Bool.true_and, Bool.and_false, Bool.false_and, Nat.reduceAdd, Nat.zero_add, Nat.add_zero, Nat.reduceEqDiff, if_true, if_false, reduceIte]))
    | (show DE _ _ _ _ _ _ _ _ _ _ _ _; first | (apply e_move; exact rfl; exact rfl; exact rfl) | (apply e_fieldAddr; exact rfl; exact rfl; exact (ty rfl); exact rfl; exact rfl; exact rfl; exact rfl; exact rfl) | (apply e_nilc; exact rfl; exact rfl; exact rfl; exact rfl) | (apply e_lenl; exact rfl; exact rfl; exact (ty rfl); exact rfl; exact rfl) | (apply e_sub; exact rfl; exact rfl; exact rfl; exact rfl) | (apply e_ld1p; exact rfl; exact rfl; exact (ty rfl); exact rfl; exact rfl; exact (by first | rfl | assumption | ((try simp only [Nat.zero_add]); refine List.getElem?_set_self ?_; (try simp only [List.length_set]); assumption)); exact rfl; exact rfl) | (apply e_ssl_h; exact rfl; exact rfl; exact rfl; exact (ty rfl); exact rfl; exact rfl; exact (by first | omega | (simp; done) | (simp; omega)); exact (by first | omega | (simp; done) | (simp; omega)); exact (by first | omega | (simp; done) | (simp; omega)); exact rfl))
    | (show DE _ _ _ _ _ _ _ _ _ _ _ _; (first | (apply dr_nil; exact trivial) | (apply e_store; exact rfl; exact rfl; exact (ty rfl); exact rfl; exact (by first | rfl | assumption | ((try simp only [Nat.zero_add]); refine List.getElem?_set_self ?_; (try simp only [List.length_set]); assumption)); exact rfl; exact rfl; exact rfl; exact rfl) | (apply e_callU; exact rfl; exact rfl; exact rfl; rotate_left; exact hE _; exact rfl; rotate_right; focus ((repeat' (first | exact FzL.nil | exact (by assumption : FzC _) _ | refine FzL.cons ?_ ?_ | exact Fz.of rfl | exact Fz.nil | exact Fz.emp | (apply Fz.fnC; assumption) | (apply Fz.sl2; exact rfl; exact (by first | omega | (simp; done) | (simp; omega)); first | exact rfl | exact dt_full (by first | omega | (simp; done) | (simp; omega)) | assumption) | apply Fz.agg | (apply Fz.ptrL; exact rfl; first | exact rfl | assumption) | apply Fz.fnL)); done))); (try simp only [put, rowsOf, plR, List.all_cons, selE, ovr, setH, del, cellsA, splice, isV, List.nil_append, List.cons_append, List.map_cons, List.map_nil, List.length_cons, List.length_nil, List.set_cons_zero, List.set_cons_succ, List.take_succ_cons, List.take_zero, List.take_nil, List.drop_succ_cons, List.drop_zero, List.drop_nil, List.append_nil, List.all_cons, List.all_nil, Bool.and_true, Bool.true_and, Bool.and_false, Bool.false_and, Nat.reduceAdd, Nat.zero_add, Nat.add_zero, Nat.reduceEqDiff, if_true, if_false, reduceIte]))
    | (show AW _ _ _ _ _ _ _ _; first | refine aw_region ?_ | (refine aw_seqk ?_; intro K hK) | refine aw_block ?_ | (apply aw_cond_f; exact rfl; exact rfl) | (apply aw_cond_t; exact rfl; exact (by assumption)) | (apply aw_cond_f; exact rfl; exact (by assumption)) | refine aw_skip ?_ | refine aw_drawE (id := 6) [0, 1, 3, 7, 0, 16, 48, 112, 0, 511] [0, 0, 0, 1, 0, 0, 0, 1, 0, 1] mixed (by kernel_rfl) ?_ | refine aw_drawE (id := 13) [0, 0, 2, 6, 14, 0, 32, 96, 224, 480, 992, 2046, 4095, 8191, 16383] [0, 0, 0, 0, 1, 0, 0, 0, 1, 0, 0, 1, 0, 0, 2] mixed (by kernel_rfl) ?_)
    | refine thn_n ?_
    | (refine hK _ _ _ ?_; clear hK K)
    | refine inb_n ?_)); all_goals (repeat (clear hK K)))
              all_goals (try simp only [hws, Int.toNat_natCast])
              all_goals (refine ⟨(x + 1, (qb, qf)), mv 2 5, ⟨c1, by dsimp only; omega, by dsimp only; omega, by dsimp only; omega, by rw [hj2]; exact hg⟩, by dsimp only; omega, ?_⟩; (try dsimp only); rw [← hw]; exact ⟨by (repeat (refine ⟨by first | exact lk_i rfl rfl | exact lk_r rfl rfl rfl, ?_⟩)); exact trivial, by (repeat (refine ⟨by first | exact ⟨rfl, rfl, rfl⟩, ?_⟩)); exact trivial, by rfl, by (intro i hi; (try dsimp only); refine ⟨?_, ?_⟩ <;> first | rfl | omega | (simp [mv]; omega))⟩)
    · have d1 : decide ((x : Int) < mnI m (IntKind.i64.wrap (used + 1))) = false := by
        rw [hwu, decide_eq_false_iff_not, mnI]; split <;> omega
      have e : KK - x = 0 := by omega
      rw [e, extG] at hg
      subst hg
      ((repeat' (first
    | (show SQ _ _ _ _ _ _ _ _; first | apply sq_nil | (apply q_move; exact rfl; exact rfl) | (apply q_assign; exact rfl; exact rfl) | (apply q_min; exact rfl; exact rfl; exact rfl) | (apply q_add; exact rfl; exact rfl; exact rfl) | (apply q_lss; exact rfl; exact rfl; exact rfl))
    | (show AW _ _ _ _ _ _ _ _; first | refine aw_region ?_ | (refine aw_seqk ?_; intro K hK) | (apply aw_cond_f; exact rfl; exact (by assumption)) | refine aw_ret ?_ | refine aw_exit ?_)
    | refine thn_n ?_
    | (refine hK _ _ _ ?_; clear hK K)
    | refine thn_e ?_
    | refine inb_same ?_
    | (clear hK K; refine hK _ _ _ ?_; clear hK K))); all_goals (repeat (clear hK K)))
      all_goals exact finc id (.r1 _ _ (.tmp _ _ rfl)) rfl (fun z hz => rfl) ⟨rfl, rfl, trivial⟩ rfl
end
end Go.Proofs.Yteknfaldpajlpaa.Nb

namespace Go.Proofs.Yteknfaldpajlpaa.Nb
open Go Go.RowKit Go.Proofs.Yteknfaldpajlpaa.Aw Go.Proofs.Yteknfaldpajlpaa.In Go.Proofs.Yteknfaldpajlpaa.Il
set_option linter.unusedSimpArgs false
set_option linter.unusedVariables false
set_option linter.unusedSectionVars false
attribute [local irreducible] AW SQ Step RO RC DE Thn InB
def fewF (ls : List (List Int)) : Nat → Nat → Int × List Int → Nat × (Bool × (Int × List Int))
  | 0, m, st => (m, ext ls (m : Int) ls.length 0 st)
  | k + 1, m, st => if (ext ls (m : Int) ls.length 0 st).1 then (m, ext ls (m : Int) ls.length 0 st) else if (ext ls (m : Int) ls.length 0 st).2.1 < 0 then (m, ext ls (m : Int) ls.length 0 st)
    else fewF ls k (m + 1) (ext ls (m : Int) ls.length 0 st).2
def us (cs : List Int) : Int := cs.foldl (fun u c => max u (c + 1)) 0
theorem us_app (cs : List Int) (c : Int) : us (cs ++ [c]) = max (us cs) (c + 1) := by simp [us, List.foldl_append]
theorem us_max : ∀ (cs : List Int) (x : Int), x ∈ cs → x + 1 ≤ us cs := by
  have gen : ∀ (cs : List Int) (u : Int), u ≤ cs.foldl (fun u c => max u (c + 1)) u ∧ ∀ x ∈ cs, x + 1 ≤ cs.foldl (fun u c => max u (c + 1)) u := by
    intro cs
    induction cs with
    | nil => intro u; simp
    | cons y cs ih =>
      intro u
      obtain ⟨h1, h2⟩ := ih (max u (y + 1))
      refine ⟨by simp only [List.foldl_cons]; omega, fun x hx => ?_⟩
      simp only [List.foldl_cons]
      rcases List.mem_cons.1 hx with rfl | hx
      · omega
      · exact h2 x hx
  exact fun cs x hx => (gen cs 0).2 x hx
theorem us_in (ls : List (List Int)) : ∀ i, i ≤ 24 → 0 ≤ us (asgC ls i) ∧ us (asgC ls i) ≤ (i : Int)
  | 0, _ => by simp [us, asgC]
  | i + 1, h => by
    have h1 := us_in ls i (by omega)
    obtain ⟨h2, _, _⟩ := frC_asg ls (i := i) (by omega)
    rw [asgC, us_app]
    omega
theorem us_mono (ls : List (List Int)) (i : Nat) : ∀ d, us (asgC ls i) ≤ us (asgC ls (i + d))
  | 0 => Int.le_refl _
  | d + 1 => by
    have := us_mono ls i d
    show us (asgC ls i) ≤ us (asgC ls ((i + d) + 1))
    rw [asgC, us_app]; omega
theorem asg_sol (ls : List (List Int)) {n : Nat} (hn : n ≤ 24) : ∀ (d i : Nat), i + d = n → ∃ w : List Int, w.length = d ∧ Sol ls (us (asgC ls n)) (asgC ls i) (us (asgC ls i)) w
  | 0, i, h => ⟨[], rfl, .nil⟩
  | d + 1, i, h => by
    obtain ⟨w, hw, hS⟩ := asg_sol ls hn d (i + 1) (by omega)
    obtain ⟨g1, g2, g3⟩ := frC_asg ls (i := i) (by omega)
    have hu := us_in ls i (by omega)
    have hc : (frC ls (asgC ls i) : Int) ≤ us (asgC ls i) := by
      obtain ⟨u, hu0⟩ := Int.eq_ofNat_of_zero_le hu.1
      have hf : earB ls (asgC ls i) (u : Int) = false := earB_fresh fun hm => by have := us_max _ _ hm; omega
      have := (frC_spec (ls := ls) (cs := asgC ls i) (u := u) (by omega) hf).1
      omega
    have hmx := us_mono ls (i + 1) d
    rw [show i + 1 + d = n by omega] at hmx
    have e : asgC ls (i + 1) = asgC ls i ++ [(frC ls (asgC ls i) : Int)] := rfl
    have e2 := us_app (asgC ls i) (frC ls (asgC ls i) : Int)
    rw [← e] at e2
    refine ⟨(frC ls (asgC ls i) : Int) :: w, by simp [hw], .cons (by omega) hc g2 ?_⟩
    rw [← e, ← e2]
    exact hS
theorem Sol.mono {ls : List (List Int)} {m m' : Int} (h : m ≤ m') {p w : List Int} {u : Int} (hS : Sol ls m p u w) : Sol ls m' p u w := by
  induction hS with
  | nil => exact .nil
  | cons hm hu he _ ih => exact .cons (by omega) hu he ih
theorem ext_top {ls : List (List Int)} {m : Int} {st : Int × List Int} (hn : ls.length ≤ 24) (hm : us (asgC ls ls.length) ≤ m) (h0 : 0 ≤ st.1) (h1 : ls.length = 0 → st.2.length = 0) : (ext ls m ls.length 0 st).1 = true ∨ (ext ls m ls.length 0 st).2.1 < 0 := by
  obtain ⟨w, hw, hS⟩ := asg_sol ls hn ls.length 0 (by omega)
  exact ext_find ls.length 0 st [] w (Nat.le_refl _) h0 (by omega) (fun h => by rw [h1 h, h]) (by simp) hw (hS.mono hm)
section
variable (ls : List (List Int)) (hS : NbS ls)
include hS
set_option maxHeartbeats 4000000 in
theorem Fewest_bad_ro (bu : Int) (h : nbB ls = false) (k : Nat) : RO Try.prog 22 [.dsl 1 (nbL ls), .v (.int .i64 bu)] k (.tup [.v (.slice none 0 0), .v (.int .i64 0), .v (.int .i64 1)]) [] k := by
  have hV := ValidNeighbours_ro ls hS
  have b1 : (!nbB ls) = true := by rw [h]; rfl
  refine RO.ofp Try.func22 Try.ntmps22 rfl (goFn_of Try.func22 rfl (by kernel_rfl)) rfl rfl rfl ?_
  ((repeat' (first
    | (show SQ _ _ _ _ _ _ _ _; first | apply sq_nil | (apply q_move; exact rfl; exact rfl) | (apply q_assign; exact rfl; exact rfl) | (apply q_not; exact rfl; exact rfl))
    | (show SQ _ _ _ _ _ _ _ _; (first | (apply q_callU; exact rfl; exact rfl; exact rfl; exact FzL.of rfl; exact hV _)); (try simp only [put, rowsOf, plR, List.all_cons, selE, ovr, setH, del, cellsA, splice, isV, List.nil_append, List.cons_append, List.map_cons, List.map_nil, List.length_cons, List.length_nil, List.set_cons_zero, List.set_cons_succ, List.take_succ_cons, List.take_zero, List.take_nil, List.drop_succ_cons, List.drop_zero, List.drop_nil, List.append_nil, List.all_cons, List.all_nil, Bool.and_true, Bool.true_and, Bool.and_false, Bool.false_and, Nat.reduceAdd, Nat.zero_add, Nat.add_zero, Nat.reduceEqDiff, if_true, if_false, reduceIte]))
    | (show AW _ _ _ _ _ _ _ _; first | refine aw_region ?_ | (refine aw_seqk ?_; intro K hK) | refine aw_block ?_ | (apply aw_cond_t; exact rfl; exact (by assumption)) | refine aw_ret ?_)
    | refine thn_n ?_
    | (refine hK _ _ _ ?_; clear hK K)
    | refine thn_r ?_
    | refine inb_r ?_)); all_goals (repeat (clear hK K)))
  all_goals refine fin_r (fin_p (.r3 _ _ _ _ _ _ (.tmp _ _ rfl) (.tmp _ _ rfl) (.tmp _ _ rfl)) ?_ rfl rfl rfl)
  all_goals rfl
set_option maxHeartbeats 4000000 in
theorem budgetValid_ro (bu : Int) (k : Nat) : RO Try.prog 53 [.v (.int .i64 bu)] k (.v (.bool (inB bu 1 20000))) [] k := by
  refine RO.ofv' Try.func53 Try.ntmps53 rfl (goFn_of Try.func53 rfl (by kernel_rfl)) rfl rfl ?_
  ((repeat' (first
    | (show SQ _ _ _ _ _ _ _ _; first | apply sq_nil | (apply q_move; exact rfl; exact rfl) | (apply q_assign; exact rfl; exact rfl))
    | (show SQ _ _ _ _ _ _ _ _; (first | (apply q_callU; exact rfl; exact rfl; exact rfl; exact FzL.of rfl; exact within_ro _ _ _ _)); (try simp only [put, rowsOf, plR, List.all_cons, selE, ovr, setH, del, cellsA, splice, isV, List.nil_append, List.cons_append, List.map_cons, List.map_nil, List.length_cons, List.length_nil, List.set_cons_zero, List.set_cons_succ, List.take_succ_cons, List.take_zero, List.take_nil, List.drop_succ_cons, List.drop_zero, List.drop_nil, List.append_nil, List.all_cons, List.all_nil, Bool.and_true, Bool.true_and, Bool.and_false, Bool.false_and, Nat.reduceAdd, Nat.zero_add, Nat.add_zero, Nat.reduceEqDiff, if_true, if_false, reduceIte]))
    | (show AW _ _ _ _ _ _ _ _; first | refine aw_region ?_ | (refine aw_seqk ?_; intro K hK) | refine aw_ret ?_)
    | refine thn_n ?_
    | (refine hK _ _ _ ?_; clear hK K))); all_goals (repeat (clear hK K)))
  all_goals exact fin_r (fin_b rfl rfl)
set_option maxHeartbeats 4000000 in
theorem Fewest_rng_ro (bu : Int) (h : nbB ls = true) (h2 : inB bu 1 20000 = false) (k : Nat) : RO Try.prog 22 [.dsl 1 (nbL ls), .v (.int .i64 bu)] k (.tup [.v (.slice none 0 0), .v (.int .i64 0), .v (.int .i64 2)]) [] k := by
  have hV := ValidNeighbours_ro ls hS
  have hB := budgetValid_ro ls hS bu
  have b1 : (!nbB ls) = false := by rw [h]; rfl
  have b2 : (!inB bu 1 20000) = true := by rw [h2]; rfl
  refine RO.ofp Try.func22 Try.ntmps22 rfl (goFn_of Try.func22 rfl (by kernel_rfl)) rfl rfl rfl ?_
  ((repeat' (first
    | (show SQ _ _ _ _ _ _ _ _; first | apply sq_nil | (apply q_move; exact rfl; exact rfl) | (apply q_assign; exact rfl; exact rfl) | (apply q_not; exact rfl; exact rfl))
    | (show SQ _ _ _ _ _ _ _ _; (first | (apply q_callU; exact rfl; exact rfl; exact rfl; exact FzL.of rfl; exact hV _) | (apply q_callU; exact rfl; exact rfl; exact rfl; exact FzL.of rfl; exact hB _)); (try simp only [put, rowsOf, plR, List.all_cons, selE, ovr, setH, del, cellsA, splice, isV, List.nil_append, List.cons_append, List.map_cons, List.map_nil, List.length_cons, List.length_nil, List.set_cons_zero, List.set_cons_succ, List.take_succ_cons, List.take_zero, List.take_nil, List.drop_succ_cons, List.drop_zero, List.drop_nil, List.append_nil, List.all_cons, List.all_nil, Bool.and_true, Bool.true_and, Bool.and_false, Bool.false_and, Nat.reduceAdd, Nat.zero_add, Nat.add_zero, Nat.reduceEqDiff, if_true, if_false, reduceIte]))
    | (show AW _ _ _ _ _ _ _ _; first | refine aw_region ?_ | (refine aw_seqk ?_; intro K hK) | refine aw_block ?_ | (apply aw_cond_t; exact rfl; exact (by assumption)) | (apply aw_cond_f; exact rfl; exact (by assumption)) | refine aw_ret ?_)
    | refine thn_n ?_
    | (refine hK _ _ _ ?_; clear hK K)
    | refine thn_r ?_
    | refine inb_r ?_)); all_goals (repeat (clear hK K)))
  all_goals refine fin_r (fin_p (.r3 _ _ _ _ _ _ (.tmp _ _ rfl) (.tmp _ _ rfl) (.tmp _ _ rfl)) ?_ rfl rfl rfl)
  all_goals rfl
theorem Fewest_full (bu : Int) (h : nbB ls = true) (h2 : inB bu 1 20000 = true) (hv : (fewF ls ls.length 0 (bu, [])).2.1 = false) (k : Nat) : RO Try.prog 22 [.dsl 1 (nbL ls), .v (.int .i64 bu)] k (.tup [.v (.slice none 0 0), .v (.int .i64 0), .v (.int .i64 5)]) [] k := by
  have hV := ValidNeighbours_ro ls hS
  have hB := budgetValid_ro ls hS bu
  have b1 : (!nbB ls) = false := by rw [h]; rfl
  have b2 : (!inB bu 1 20000) = false := by rw [h2]; rfl
  have hN := nbB_in h
  have hbu : 1 ≤ bu ∧ bu ≤ 20000 := by simpa [inB] using h2
  have hus := us_in ls ls.length hN
  generalize hQQ : fewF ls ls.length 0 (bu, []) = Q at *
  refine RO.ofp Try.func22 Try.ntmps22 rfl (goFn_of Try.func22 rfl (by kernel_rfl)) rfl rfl rfl ?_
  ((repeat' (first
    | (show SQ _ _ _ _ _ _ _ _; first | apply sq_nil | (apply q_move; exact rfl; exact rfl) | (apply q_assign; exact rfl; exact rfl) | (apply q_not; exact rfl; exact rfl) | (apply q_build; exact rfl; exact (ty rfl); exact rfl; exact rfl; exact rfl))
    | (show SQ _ _ _ _ _ _ _ _; (first | (apply q_alloc; exact rfl; exact (ty rfl); exact rfl; exact rfl) | (apply q_store; exact rfl; exact rfl; exact (ty rfl); exact rfl; exact (by first | rfl | assumption | ((try simp only [Nat.zero_add]); refine List.getElem?_set_self ?_; (try simp only [List.length_set]); assumption)); exact rfl; exact rfl; exact rfl) | (apply q_callU; exact rfl; exact rfl; exact rfl; exact FzL.of rfl; exact hV _) | (apply q_callU; exact rfl; exact rfl; exact rfl; exact FzL.of rfl; exact hB _)); (try simp only [put, rowsOf, plR, List.all_cons, selE, ovr, setH, del, cellsA, splice, isV, List.nil_append, List.cons_append, List.map_cons, List.map_nil, List.length_cons, List.length_nil, List.set_cons_zero, List.set_cons_succ, List.take_succ_cons, List.take_zero, List.take_nil, List.drop_succ_cons, List.drop_zero, List.drop_nil, List.append_nil, List.all_cons, List.all_nil, Bool.and_true, Bool.true_and, Bool.and_false, Bool.false_and, Nat.reduceAdd, Nat.zero_add, Nat.add_zero, Nat.reduceEqDiff, if_true, if_false, reduceIte]))
    | (show AW _ _ _ _ _ _ _ _; first | refine aw_region ?_ | (refine aw_seqk ?_; intro K hK) | refine aw_block ?_ | (apply aw_cond_f; exact rfl; exact (by assumption)) | refine aw_skip ?_)
    | refine thn_n ?_
    | (refine hK _ _ _ ?_; clear hK K)
    | refine inb_n ?_)); all_goals (repeat (clear hK K)))
  refine aw_nilB 0 0 2 2 1 rfl rfl rfl rfl rfl ?_
  refine aw_loop (ρ := id) (ι := Nat × (Int × List Int)) (fun s => ([(8, .v (.int .i64 (s.1 : Int))), (7, .ptr 0 0 0)],
      [(0, ⟨73, 3, false, [[.dsl 1 (nbL ls), .v (.int .i64 s.2.1), .sl 1 0 0]]⟩), (1, ⟨2, 1, true, s.2.2.map inL⟩)], 2))
    (fun s => s.1 ≤ ls.length ∧ 0 ≤ s.2.1 ∧ s.2.1 ≤ 20000 ∧ (ls.length = 0 → s.2.2.length = 0) ∧ fewF ls (ls.length - s.1) s.1 s.2 = Q) (fun s => ls.length - s.1) (0, (bu, [])) ⟨Nat.zero_le _, by dsimp only; omega, by dsimp only; omega, fun _ => rfl, hQQ⟩ ⟨by (repeat (refine ⟨by first | exact lk_i rfl rfl | exact lk_r rfl rfl rfl, ?_⟩)); exact trivial, by (repeat (refine ⟨by first | exact ⟨rfl, rfl, rfl⟩, ?_⟩)); exact trivial, by rfl, by exact pin_0⟩ ?_
  rintro ⟨m, st⟩ ⟨hm, s0, s1, h0, hg⟩
  dsimp only at hm s0 s1 h0 hg
  have hX := ext_rc ls hS (m : Int) (by omega) ls.length 0 st (Nat.le_refl _) hN (by omega) (by omega) s0 s1 (by omega) (fun e => by rw [h0 e, e]) 0 1 (by decide)
  have hk := ext_keep (ls := ls) (m := (m : Int)) ls.length 0 st (Nat.le_refl _) s0 (by omega) (fun e => by rw [h0 e, e])
  have ht := fun hh => ext_top (ls := ls) (m := (m : Int)) (st := st) hN hh s0 h0
  have hw : IntKind.i64.wrap ((m : Int) + 1) = ((m + 1 : Nat) : Int) := by rw [IntWalk.i64_in _ (by omega)]; omega
  rw [Nat.sub_self] at hX hk
  unfold exR at hX
  have hg1 : (ext ls (m : Int) ls.length 0 st).1 = true ∨ (ext ls (m : Int) ls.length 0 st).2.1 < 0 → (m, ext ls (m : Int) ls.length 0 st) = Q := by
    intro hor
    rw [← hg]
    cases ls.length - m with
    | zero => rfl
    | succ j =>
      rw [fewF]
      split
      · rfl
      · split
        · rfl
        · rename_i e1 e2; rcases hor with e | e
          · exact absurd e e1
          · exact absurd e e2
  have hg2 : ¬ ((ext ls (m : Int) ls.length 0 st).1 = true ∨ (ext ls (m : Int) ls.length 0 st).2.1 < 0) → m < ls.length ∧ fewF ls (ls.length - (m + 1)) (m + 1) (ext ls (m : Int) ls.length 0 st).2 = Q := by
    intro hor
    have hml : m < ls.length := by
      apply Nat.lt_of_le_of_ne hm
      intro e
      exact hor (ht (by omega))
    refine ⟨hml, ?_⟩
    rw [← hg, show ls.length - m = (ls.length - (m + 1)) + 1 by omega, fewF]
    rw [if_neg (fun e => hor (.inl e)), if_neg (fun e => hor (.inr e))]
  clear hg ht
  generalize ext ls (m : Int) ls.length 0 st = q at *
  obtain ⟨qo, qb, qf⟩ := q
  have kb := hk.bud
  have kl := hk.lo
  dsimp only at hX kb hg1 hg2 kl
  cases qo with
  | true =>
    have hg := hg1 (.inl rfl)
    rw [if_pos rfl] at hX
    ((repeat' (first
    | (show SQ _ _ _ _ _ _ _ _; first | apply sq_nil | (apply q_move; exact rfl; exact rfl) | (apply q_assign; exact rfl; exact rfl) | (apply q_fieldAddr; exact rfl; exact rfl; exact (ty rfl); exact rfl; exact rfl; exact rfl; exact rfl) | (apply q_ld1p; exact rfl; exact rfl; exact (ty rfl); exact rfl; exact rfl; exact (by first | rfl | assumption | ((try simp only [Nat.zero_add]); refine List.getElem?_set_self ?_; (try simp only [List.length_set]); assumption)); exact rfl))
    | (show SQ _ _ _ _ _ _ _ _; (first | (apply q_callC; exact rfl; exact rfl; exact rfl; exact hX _; (focus ((repeat (first | exact trivial | refine ⟨by first | exact rfl | assumption, ?_⟩)); done)); skip)); (try simp only [put, rowsOf, plR, List.all_cons, selE, ovr, setH, del, cellsA, splice, isV, List.nil_append, List.cons_append, List.map_cons, List.map_nil, List.length_cons, List.length_nil, List.set_cons_zero, List.set_cons_succ, List.take_succ_cons, List.take_zero, List.take_nil, List.drop_succ_cons, List.drop_zero, List.drop_nil, List.append_nil, List.all_cons, List.all_nil, Bool.and_true, Bool.true_and, Bool.and_false, Bool.false_and, Nat.reduceAdd, Nat.zero_add, Nat.add_zero, Nat.reduceEqDiff, if_true, if_false, reduceIte]))
    | (show AW _ _ _ _ _ _ _ _; first | refine aw_region ?_ | (refine aw_seqk ?_; intro K hK) | refine aw_block ?_ | (apply aw_cond_t; exact rfl; exact rfl) | refine aw_ret ?_)
    | refine thn_n ?_
    | (refine hK _ _ _ ?_; clear hK K)
    | refine thn_r ?_
    | refine inb_r ?_)); all_goals (repeat (clear hK K)))
    all_goals exact absurd (hg ▸ hv) (by simp)
  | false =>
    rw [if_neg (by simp)] at hX
    by_cases c4 : qb < 0
    · have hg := hg1 (.inr c4)
      have d4 : decide (qb < 0) = true := by simpa using c4
      ((repeat' (first
    | (show SQ _ _ _ _ _ _ _ _; first | apply sq_nil | (apply q_move; exact rfl; exact rfl) | (apply q_assign; exact rfl; exact rfl) | (apply q_fieldAddr; exact rfl; exact rfl; exact (ty rfl); exact rfl; exact rfl; exact rfl; exact rfl) | (apply q_lss; exact rfl; exact rfl; exact rfl) | (apply q_ld1p; exact rfl; exact rfl; exact (ty rfl); exact rfl; exact rfl; exact (by first | rfl | assumption | ((try simp only [Nat.zero_add]); refine List.getElem?_set_self ?_; (try simp only [List.length_set]); assumption)); exact rfl))
    | (show SQ _ _ _ _ _ _ _ _; (first | (apply q_callC; exact rfl; exact rfl; exact rfl; exact hX _; (focus ((repeat (first | exact trivial | refine ⟨by first | exact rfl | assumption, ?_⟩)); done)); skip)); (try simp only [put, rowsOf, plR, List.all_cons, selE, ovr, setH, del, cellsA, splice, isV, List.nil_append, List.cons_append, List.map_cons, List.map_nil, List.length_cons, List.length_nil, List.set_cons_zero, List.set_cons_succ, List.take_succ_cons, List.take_zero, List.take_nil, List.drop_succ_cons, List.drop_zero, List.drop_nil, List.append_nil, List.all_cons, List.all_nil, Bool.and_true, Bool.true_and, Bool.and_false, Bool.false_and, Nat.reduceAdd, Nat.zero_add, Nat.add_zero, Nat.reduceEqDiff, if_true, if_false, reduceIte]))
    | (show AW _ _ _ _ _ _ _ _; first | refine aw_region ?_ | (refine aw_seqk ?_; intro K hK) | refine aw_block ?_ | (apply aw_cond_f; exact rfl; exact rfl) | (apply aw_cond_t; exact rfl; exact (by assumption)) | refine aw_ret ?_ | refine aw_skip ?_)
    | refine thn_n ?_
    | (refine hK _ _ _ ?_; clear hK K)
    | refine thn_r ?_
    | refine inb_r ?_)); all_goals (repeat (clear hK K)))
      all_goals (refine fin_r (fin_p (.r3 _ _ _ _ _ _ (.tmp _ _ rfl) (.tmp _ _ rfl) (.tmp _ _ rfl)) ?_ rfl rfl rfl); rfl)
    · obtain ⟨hml, hg⟩ := hg2 (fun h => h.elim (fun e => by cases e) c4)
      have d4 : decide (qb < 0) = false := by simpa using c4
      ((repeat' (first
    | (show SQ _ _ _ _ _ _ _ _; first | apply sq_nil | (apply q_move; exact rfl; exact rfl) | (apply q_assign; exact rfl; exact rfl) | (apply q_fieldAddr; exact rfl; exact rfl; exact (ty rfl); exact rfl; exact rfl; exact rfl; exact rfl) | (apply q_add; exact rfl; exact rfl; exact rfl) | (apply q_lss; exact rfl; exact rfl; exact rfl) | (apply q_ld1p; exact rfl; exact rfl; exact (ty rfl); exact rfl; exact rfl; exact (by first | rfl | assumption | ((try simp only [Nat.zero_add]); refine List.getElem?_set_self ?_; (try simp only [List.length_set]); assumption)); exact rfl))
    | (show SQ _ _ _ _ _ _ _ _; (first | (apply q_callC; exact rfl; exact rfl; exact rfl; exact hX _; (focus ((repeat (first | exact trivial | refine ⟨by first | exact rfl | assumption, ?_⟩)); done)); skip)); (try simp only [put, rowsOf, plR, List.all_cons, selE, ovr, setH, del, cellsA, splice, isV, List.nil_append, List.cons_append, List.map_cons, List.map_nil, List.length_cons, List.length_nil, List.set_cons_zero, List.set_cons_succ, List.take_succ_cons, List.take_zero, List.take_nil, List.drop_succ_cons, List.drop_zero, List.drop_nil, List.append_nil, List.all_cons, List.all_nil, Bool.and_true, Bool.true_and, Bool.and_false, Bool.false_and, Nat.reduceAdd, Nat.zero_add, Nat.add_zero, Nat.reduceEqDiff, if_true, if_false, reduceIte]))
    | (show AW _ _ _ _ _ _ _ _; first | refine aw_region ?_ | (refine aw_seqk ?_; intro K hK) | refine aw_block ?_ | (apply aw_cond_f; exact rfl; exact rfl) | (apply aw_cond_f; exact rfl; exact (by assumption)) | refine aw_skip ?_)
    | refine thn_n ?_
    | (refine hK _ _ _ ?_; clear hK K)
    | refine inb_n ?_)); all_goals (repeat (clear hK K)))
      all_goals (refine ⟨(m + 1, (qb, qf)), mv 1 2, ⟨hml, by dsimp only; omega, by dsimp only; omega, fun e => by omega, hg⟩, by dsimp only; omega, ?_⟩; (try dsimp only); rw [← hw]; exact ⟨by (repeat (refine ⟨by first | exact lk_i rfl rfl | exact lk_r rfl rfl rfl, ?_⟩)); exact trivial, by (repeat (refine ⟨by first | exact ⟨rfl, rfl, rfl⟩, ?_⟩)); exact trivial, by rfl, by exact pin_0⟩)
end
end Go.Proofs.Yteknfaldpajlpaa.Nb

namespace Go.Proofs.Yteknfaldpajlpaa.Sr
open Go Go.RowKit Go.Proofs.Yteknfaldpajlpaa.Aw
set_option linter.unusedSimpArgs false
set_option linter.unusedVariables false
attribute [local irreducible] AW SQ Step RO RC DE
structure Sr where
  c : List Int
  a : Int
  s : Int
structure Sr.ok (s : Sr) (k : Int) : Prop where
  b : ∀ b ∈ s.c, 0 ≤ b ∧ b ≤ 255
  a0 : 0 ≤ s.a
  a1 : s.a ≤ k
  n : s.c.length ≤ 9223372036854775807
theorem Sr.ok.mono {s : Sr} {k k' : Int} (h : s.ok k) (hk : k ≤ k') : s.ok k' := ⟨h.b, h.a0, by have := h.a1; omega, h.n⟩
def tl (s : Int) : Int := IntKind.i64.wrap (andI IntKind.u64 (s / 2 ^ min (Int.toNat 40) IntKind.u64.bits) 255)
end Go.Proofs.Yteknfaldpajlpaa.Sr

-- Numbers chosen by the bytes of an input.
namespace Go.Proofs.Yteknfaldpajlpaa.Sr
open Go Go.RowKit Go.Proofs.Yteknfaldpajlpaa.Aw
set_option linter.unusedSimpArgs false
set_option linter.unusedVariables false
attribute [local irreducible] AW SQ Step RO RC DE Thn InB
end Go.Proofs.Yteknfaldpajlpaa.Sr

namespace Go.Proofs.Yteknfaldpajlpaa.Fg
open Go.ChangeShapes Go.WideShapes Go.ChangeAt Go.RowKit Go.Deep
open Go.ChangeMaps (open_string shut_string)
set_option linter.unusedSimpArgs false
def SlV {α : Type} (cV : α → List Value) (sz : Nat) (w : World) (v : Value) (xs : List α) : Prop :=
  Aw.VR (fun k => k < w.heap.size) w (fun _ => ⟨0, 0, 0, false⟩) Aw.NoS (.dsl sz (xs.map fun a => (cV a).map .v)) v ∧ xs.length ≤ 9223372036854775807
section
variable {P : Program} {H : Type} {enc : TypeId × Value → H} {W : World} {r : Reach} {b0 base : Nat} {spare : Nat → Bool} {held : Bool} {v : Value} {d : DataW H} {p : List MemPlace}
theorem sl_open {t e : TypeId} {sz : Nat} {α : Type} [Inhabited α] {cV : α → List Value} {Q : α → Prop} {fuel : Nat} {x : DataW H × List MemPlace} (hU : P.underlying t = some (.slice e)) (hcells : P.cellsOf e = sz) (hsz : 0 < sz) (hlen : ∀ a, (cV a).length = sz)
    (hone : ∀ a, ∀ y ∈ cV a, y.oneCell' = true) (hel : ∀ fuel cs x, DataW.trod enc P W base spare held fuel e cs = some x → ∃ a, cs = cV a ∧ Q a) (h : DataW.trod enc P W base spare held fuel t [v] = some x) :
    ∃ xs : List α, SlV cV sz W v xs ∧ ∀ a ∈ xs, Q a := by
  rcases open_slice hU h with ⟨hc, _⟩ | ⟨a, len, cap, m, n, D, Pl, hc, hb, hl, hm, hmm, _, hels⟩
  · simp only [List.cons.injEq, and_true] at hc
    subst hc
    exact ⟨[], ⟨.dsl0 _ _ _ _, by simp⟩, by simp⟩
  · simp only [List.cons.injEq, and_true] at hc
    subst hc
    have hlm : len ≤ m := by rw [hmm]; split <;> omega
    obtain ⟨f, hf2⟩ := choose_lt (n := len) (p := fun i (l : α) => W.cells? base (a.add (i * sz)) sz = some (cV l) ∧ Q l) fun i hi => by
      obtain ⟨cs', h1, h2⟩ := hels i (by omega)
      rw [hcells] at h1
      obtain ⟨l, rfl, hs⟩ := hel _ _ _ h2
      exact ⟨l, h1, hs⟩
    refine ⟨(List.range len).map f, ⟨?_, by simp only [maxLen] at hm; simp; omega⟩, fun l hl => ?_⟩
    · obtain ⟨b, off, spot⟩ := a
      cases len with
      | zero => exact .dsl0 _ _ _ _
      | succ len =>
        have hc0 : ∀ r, r < len + 1 → ∀ j, j < sz → W.cell? ((⟨b, off, spot⟩ : Addr).add (r * sz + j)) = (cV (f r))[j]? := fun r hr j hj => by
          obtain ⟨_, _, hc⟩ := World.cells?_some (hf2 r hr).1
          rw [← add_add]
          exact hc j hj
        obtain ⟨y0, hy0⟩ : ∃ y0, (cV (f 0))[0]? = some y0 := ⟨_, List.getElem?_eq_getElem (by rw [hlen]; exact hsz)⟩
        have h2 : W.cell? ((⟨b, off, spot⟩ : Addr).add 0) = some y0 := by
          have := hc0 0 (by omega) 0 hsz
          simp only [Nat.zero_mul, Nat.add_zero] at this
          rw [this, hy0]
        have hspot : spot = none := by simpa [Addr.add] using World.cell?_spot h2
        subst hspot
        have hlt : b < W.heap.size := block_lt_of_cell h2
        have get : ∀ (l : α) (j : Nat) (cv : Aw.AV), ((cV l).map Aw.AV.v)[j]? = some cv → ∃ y, (cV l)[j]? = some y ∧ cv = .v y ∧ y.oneCell' = true := fun l j cv h => by
          rw [List.getElem?_map] at h
          cases hj : (cV l)[j]? with
          | none => simp [hj] at h
          | some y =>
            simp only [hj, Option.map_some, Option.some.injEq] at h
            exact ⟨y, rfl, h.symm, hone l y (List.mem_of_getElem? hj)⟩
        refine .dsl _ sz _ _ b off cap (fun r j => ((cV (f r))[j]?).getD undef) (by simp) (by simpa using hl) hlt (fun r row hr => ?_) (fun r row j cv hr hj => ?_) (fun r row j cv hr hj => ?_)
        all_goals
          rw [List.getElem?_map, List.getElem?_map] at hr
          have hrl : r < len + 1 := by
            rcases Nat.lt_or_ge r (len + 1) with h | h
            · exact h
            · rw [List.getElem?_eq_none (by simpa using h)] at hr; simp at hr
          rw [List.getElem?_range hrl] at hr
          simp only [Option.map_some, Option.some.injEq] at hr
          subst hr
        · simp [hlen]
        · obtain ⟨y, hy, rfl, hone⟩ := get _ _ _ hj
          have hjl : j < sz := by rw [← hlen (f r)]; exact (List.getElem?_eq_some_iff.1 hy).1
          have := hc0 r hrl j hjl
          rw [Go.WideShapes.add_plain] at this
          simp only [hy, Option.getD_some]
          refine ⟨?_, hone⟩
          rw [Nat.add_assoc, this, hy]
        · obtain ⟨y, hy, rfl, hone⟩ := get _ _ _ hj
          simp only [hy, Option.getD_some]
          exact .v _ _
    · obtain ⟨i, hi, rfl⟩ := List.mem_map.1 hl
      exact (hf2 i (by simpa using hi)).2
theorem sl_cell {t e : TypeId} (hU : P.underlying t = some (.slice e)) (hv : Value.okWide P W r b0 t v) : v.cells.toList = [v] := by
  have hsl : ∃ a n c, v = .slice a n c := by
    simp only [Value.okWide, hU, Cell.okWide] at hv
    cases v <;> simp_all [Cell.ok]
  obtain ⟨a, n, c, rfl⟩ := hsl
  rfl
end
end Go.Proofs.Yteknfaldpajlpaa.Fg
namespace Go.Proofs.Yteknfaldpajlpaa.Fr
open Go.ChangeShapes Go.WideShapes Go.ChangeAt Go.RowKit Go.Deep
open Go.Proofs.Yteknfaldpajlpaa.Sr Go.Proofs.Yteknfaldpajlpaa.Fg
section
variable {H : Type} {enc : TypeId × Value → H} {W : World} {r : Reach} {b0 base : Nat} {spare : Nat → Bool} {held : Bool} {v : Value} {d : DataW H} {p : List MemPlace}
end
end Go.Proofs.Yteknfaldpajlpaa.Fr

namespace Go.Proofs.Yteknfaldpajlpaa.Nb
open Go Go.RowKit Go.Proofs.Yteknfaldpajlpaa.Aw Go.Proofs.Yteknfaldpajlpaa.In Go.Proofs.Yteknfaldpajlpaa.Il Go.Proofs.Yteknfaldpajlpaa.Sr
set_option linter.unusedSimpArgs false
set_option linter.unusedVariables false
set_option linter.unusedSectionVars false
attribute [local irreducible] AW SQ Step RO RC DE Thn InB
set_option maxHeartbeats 4000000 in
theorem l23Ok_ro (ls : List (List Int)) (hS : NbS ls) (k : Nat) : RO Try.prog 39 [.dsl 1 (nbL ls)] k (.v (.bool (nbB ls))) [] k := by
  have hl := nbL_len ls
  by_cases c0 : 24 < ls.length
  · have b0 : decide ((24 : Int) < ((nbL ls).length : Int)) = true := by rw [hl]; simp; omega
    refine RO.ofv' Try.func39 Try.ntmps39 rfl (goFn_of Try.func39 rfl (by kernel_rfl)) rfl rfl ?_
    ((repeat' (first
    | (show SQ _ _ _ _ _ _ _ _; first | apply sq_nil | (apply q_move; exact rfl; exact rfl) | (apply q_assign; exact rfl; exact rfl) | (apply q_lend; exact rfl; exact rfl; exact (ty rfl); exact rfl) | (apply q_gtr; exact rfl; exact rfl; exact rfl))
    | (show AW _ _ _ _ _ _ _ _; first | refine aw_region ?_ | (refine aw_seqk ?_; intro K hK) | (apply aw_cond_t; exact rfl; exact (by assumption)) | refine aw_ret ?_)
    | refine thn_n ?_
    | (refine hK _ _ _ ?_; clear hK K)
    | refine thn_r ?_)); all_goals (repeat (clear hK K)))
    all_goals refine fin_r (fin_b rfl ?_)
    simp [nbB]; omega
  have b0 : decide ((24 : Int) < ((nbL ls).length : Int)) = false := by rw [hl]; simp; omega
  have hdec : decide (ls.length ≤ 24) = true := by simp; omega
  refine RO.ofv' Try.func39 Try.ntmps39 rfl (goFn_of Try.func39 rfl (by kernel_rfl)) rfl rfl ?_
  ((repeat' (first
    | (show SQ _ _ _ _ _ _ _ _; first | apply sq_nil | (apply q_move; exact rfl; exact rfl) | (apply q_assign; exact rfl; exact rfl) | (apply q_lend; exact rfl; exact rfl; exact (ty rfl); exact rfl) | (apply q_gtr; exact rfl; exact rfl; exact rfl))
    | (show AW _ _ _ _ _ _ _ _; first | refine aw_region ?_ | (refine aw_seqk ?_; intro K hK) | refine aw_block ?_ | (apply aw_cond_f; exact rfl; exact (by assumption)) | refine aw_skip ?_)
    | refine thn_n ?_
    | (refine hK _ _ _ ?_; clear hK K))); all_goals (repeat (clear hK K)))
  refine aw_loop (ρ := id) (ι := Nat) (fun i => ([(4, .v (.int .i64 i)), (3, .v (.int .i64 ls.length)), (0, .dsl 1 (nbL ls))], [], 0))
    (fun i => i ≤ ls.length ∧ ∀ j, j < i → nbG ls j = true) (fun i => ls.length - i) 0 ⟨Nat.zero_le _, fun j hj => absurd hj (Nat.not_lt_zero _)⟩ ⟨by (repeat (refine ⟨by first | exact lk_i rfl rfl | exact lk_i rfl (by (try dsimp only); first | rfl | omega | (rw [IntWalk.i64_in _ (by omega)]; first | rfl | omega | (push_cast; omega)) | (simp; done) | (simp; omega)) | exact lk_d rfl rfl, ?_⟩)); exact trivial, by exact trivial, by rfl, by exact pin_0⟩ ?_
  rintro i ⟨hi, hg⟩
  by_cases c1 : i < ls.length
  · have b1 : decide ((i : Int) < (ls.length : Int)) = true := by simpa using c1
    have hrow := nbL_get c1
    have hD : ls.getD i [] = ls[i] := by simp [List.getD, c1]
    have hm := hS.m _ (List.getElem_mem c1)
    have hG : nbG ls i = (risB ls[i] 0 ((ls.length : Int) - 1) && !(ls[i].any fun y => y == (i : Int))) := by rw [nbG, hD, risB_eq]
    have hwl : IntKind.i64.wrap ((ls.length : Int) - 1) = (ls.length : Int) - 1 := IntWalk.i64_in _ (by omega)
    have hw : IntKind.i64.wrap ((i : Int) + 1) = ((i + 1 : Nat) : Int) := by rw [IntWalk.i64_in _ (by omega)]; omega
    have hI := l00Rises_ro ls[i] 0 (IntKind.i64.wrap ((ls.length : Int) - 1)) hm
    rw [show risB ls[i] 0 (IntKind.i64.wrap ((ls.length : Int) - 1)) = risB ls[i] 0 ((ls.length : Int) - 1) by rw [hwl]] at hI
    have hC := l00Has_ro ls[i] (ls[i].map inL) (i : Int) rfl hm
    generalize risB ls[i] 0 ((ls.length : Int) - 1) = u2 at *
    generalize (ls[i].any fun y => y == (i : Int)) = u3 at *
    ((repeat' (first
    | (show SQ _ _ _ _ _ _ _ _; first | apply sq_nil | (apply q_move; exact rfl; exact rfl) | (apply q_assign; exact rfl; exact rfl) | (apply q_pick_t; exact rfl; exact rfl; exact rfl; exact (by first | assumption | exact rfl)) | (apply q_pick_f; exact rfl; exact rfl; exact rfl; exact (by first | assumption | exact rfl)) | (apply q_not; exact rfl; exact rfl) | (apply q_add; exact rfl; exact rfl; exact rfl) | (apply q_sub; exact rfl; exact rfl; exact rfl) | (apply q_lss; exact rfl; exact rfl; exact rfl) | (apply q_ixd; exact rfl; exact rfl; exact rfl; exact (ty rfl); exact rfl; exact (by first | omega | (simp; done) | (simp; omega)); exact (by first | omega | (simp; done) | (simp; omega)); exact (by first | rfl | assumption)) | (apply q_ld1d; exact rfl; exact rfl; exact (ty rfl); exact rfl; exact rfl) | (apply q_g; exact rfl; exact rfl; exact rfl; exact (by assumption)) | (apply q_s; exact rfl; exact rfl; exact rfl; exact (by assumption); exact rfl))
    | (show SQ _ _ _ _ _ _ _ _; (first | (apply q_callU; exact rfl; exact rfl; exact rfl; exact FzL.of rfl; exact hI _) | (apply q_callU; exact rfl; exact rfl; exact rfl; exact FzL.of rfl; exact hC _)); (try simp only [put, rowsOf, plR, List.all_cons, selE, ovr, setH, del, cellsA, splice, isV, List.nil_append, List.cons_append, List.map_cons, List.map_nil, List.length_cons, List.length_nil, List.set_cons_zero, List.set_cons_succ, List.take_succ_cons, List.take_zero, List.take_nil, List.drop_succ_cons, List.drop_zero, List.drop_nil, List.append_nil, List.all_cons, List.all_nil, Bool.and_true, Bool.true_and, Bool.and_false, Bool.false_and, Nat.reduceAdd, Nat.zero_add, Nat.add_zero, Nat.reduceEqDiff, if_true, if_false, reduceIte]))
    | (show SQ _ _ _ _ _ _ _ _; apply q_gs; exact rfl; exact rfl; exact rfl; exact rfl; all_goals intro h)
    | (show AW _ _ _ _ _ _ _ _; first | refine aw_region ?_ | (refine aw_seqk ?_; intro K hK) | refine aw_block ?_ | (apply aw_cond_t; exact rfl; exact rfl) | (apply aw_cond_t; exact rfl; exact (by assumption)) | refine aw_ret ?_ | refine aw_skip ?_ | (apply aw_ite; exact rfl; all_goals intro h))
    | refine thn_n ?_
    | (refine hK _ _ _ ?_; clear hK K)
    | refine thn_r ?_
    | refine inb_n ?_
    | refine inb_r ?_)); all_goals (repeat (clear hK K)))
    all_goals first
      | (refine fin_r (fin_b rfl ?_)
         rw [nbB, allR_false c1 (by rw [hG]; simp_all), Bool.and_false]; done)
      | (refine ⟨i + 1, id, ⟨c1, fun j hj => ?_⟩, by omega, ?_⟩
         · by_cases hjq : j < i
           · exact hg j hjq
           · obtain rfl : j = i := by omega
             rw [hG]; simp_all
         · (try dsimp only); rw [← hw]; exact ⟨by (repeat (refine ⟨by first | exact lk_i rfl rfl | exact lk_d rfl rfl, ?_⟩)); exact trivial, by exact trivial, by rfl, by exact pin_0⟩)
  · have b1 : decide ((i : Int) < (ls.length : Int)) = false := by simpa using c1
    ((repeat' (first
    | (show SQ _ _ _ _ _ _ _ _; first | apply sq_nil | (apply q_move; exact rfl; exact rfl) | (apply q_assign; exact rfl; exact rfl) | (apply q_lss; exact rfl; exact rfl; exact rfl))
    | (show AW _ _ _ _ _ _ _ _; first | refine aw_region ?_ | (refine aw_seqk ?_; intro K hK) | (apply aw_cond_f; exact rfl; exact (by assumption)) | refine aw_ret ?_ | refine aw_exit ?_)
    | refine thn_n ?_
    | (refine hK _ _ _ ?_; clear hK K)
    | refine thn_e ?_
    | refine inb_same ?_
    | (clear hK K; refine hK _ _ _ ?_; clear hK K))); all_goals (repeat (clear hK K)))
    all_goals refine fin_r (fin_b rfl ?_)
    rw [nbB, hdec, allR_true fun j hj => hg j (by omega)]; rfl
theorem few_ok {ls : List (List Int)} (hN : ls.length ≤ 24) : ∀ (k m : Nat) (st : Int × List Int), m + k = ls.length → 0 ≤ st.1 → (ls.length = 0 → st.2.length = 0) → (fewF ls k m st).2.1 = true → m ≤ (fewF ls k m st).1 ∧ ((fewF ls k m st).1 : Int) ≤ max (m : Int) (us (asgC ls ls.length)) ∧ (fewF ls k m st).1 ≤ ls.length ∧
    (fewF ls k m st).2.2.2.length = ls.length ∧ OkFrom ls 0 (fewF ls k m st).2.2.2 ∧ ∀ i, i < ls.length → 0 ≤ (fewF ls k m st).2.2.2.getD i 0 ∧ (fewF ls k m st).2.2.2.getD i 0 < ((fewF ls k m st).1 : Int) := by
  intro k
  induction k with
  | zero =>
    intro m st hmk h0 h1 hv
    have hk := ext_keep (ls := ls) (m := (m : Int)) ls.length 0 st (Nat.le_refl _) h0 (by omega) (fun e => by rw [h1 e, e])
    rw [Nat.sub_self] at hk
    have := hk.ok hv
    exact ⟨Nat.le_refl _, by show (m : Int) ≤ _; omega, by show m ≤ _; omega, this.1, this.2.2.1, fun i hi => this.2.2.2 i (Nat.zero_le _) hi⟩
  | succ k ih =>
    intro m st hmk h0 h1 hv
    have hk := ext_keep (ls := ls) (m := (m : Int)) ls.length 0 st (Nat.le_refl _) h0 (by omega) (fun e => by rw [h1 e, e])
    rw [Nat.sub_self] at hk
    have ht := fun hh => ext_top (ls := ls) (m := (m : Int)) (st := st) hN hh h0 h1
    rw [fewF] at hv ⊢
    by_cases c1 : (ext ls (m : Int) ls.length 0 st).1 = true
    · rw [if_pos c1] at hv ⊢
      have := hk.ok c1
      exact ⟨Nat.le_refl _, by show (m : Int) ≤ _; omega, by show m ≤ _; omega, this.1, this.2.2.1, fun i hi => this.2.2.2 i (Nat.zero_le _) hi⟩
    · rw [if_neg c1] at hv ⊢
      by_cases c2 : (ext ls (m : Int) ls.length 0 st).2.1 < 0
      · rw [if_pos c2] at hv
        exact absurd hv c1
      · rw [if_neg c2] at hv ⊢
        have hlt : (m : Int) < us (asgC ls ls.length) := by
          apply Int.lt_of_not_ge
          intro hge
          rcases ht hge with h | h
          · exact c1 h
          · exact c2 h
        have := ih (m + 1) (ext ls (m : Int) ls.length 0 st).2 (by omega) (by omega) (fun e => by omega) hv
        obtain ⟨g1, g2, g3⟩ := this
        exact ⟨by omega, by omega, g3⟩
end Go.Proofs.Yteknfaldpajlpaa.Nb

namespace Go.Proofs.Yteknfaldpajlpaa.Aw
open Go Go.RowKit
set_option linter.unusedVariables false
section
variable {P : Program} {Old : Nat → Prop} {wi : WI} {K : Nat → Prop} {m : Nat → Loc} {S : Nat → Prop} {H H' : Hp} {w : World} {N n g : Nat} {T : Tp} {a : Act} {Q : Exit → Tp → Hp → Nat → Prop}
def KD (m : Nat → Loc) (H : Hp) (D : Nat → Prop) (K : Nat → Prop) (k : Nat) : Prop := K k ∨ ∃ i b, D i ∧ look H i = some b ∧ (m i).ph = false ∧ k = (m i).blk
theorem kd_rel {D : Nat → Prop} (hr : Rel Old wi K m S H w) (ht : TRel K w m S N T a) (hH : ∀ i b, look H' i = some b → look H i = some b ∧ ¬ D i) {T1 : Tp}
    (hT : ∀ t v', look T1 t = some v' → ∃ v, look T t = some v ∧ ∀ x, VR K w m S v x → VR (KD m H D K) w m S v' x) :
    GK Old K (KD m H D K) ∧ Rel Old wi (KD m H D K) m S H' w ∧ TRel (KD m H D K) w m S N (T1 ++ T) a := by
  have hK : ∀ k, K k → KD m H D K k := fun k h => .inl h
  refine ⟨⟨hK, fun k h ho => ?_⟩, ?_, ht.dn, ht.sz, fun t av h => ?_⟩
  · rcases h with h | ⟨i, b, _, hl, hp, rfl⟩
    · exact h
    · exact absurd ho (hr.oown i b hl hp)
  · refine { os := hr.os, tape := hr.tape, output := hr.output, size := hr.size, old := hr.old, olt := hr.olt, oown := fun i bi h => hr.oown i bi (hH i bi h).1, om := fun i bi h hp hq => ⟨(hr.om i bi (hH i bi h).1 hp hq).1, .inl (hr.om i bi (hH i bi h).1 hp hq).2.1, (hr.om i bi (hH i bi h).1 hp hq).2.2⟩, kb := fun k h => ?_, inS := fun i bi h => hr.inS i bi (hH i bi h).1, pin := hr.pin, pinS := hr.pinS, own := fun i bi h => ?_, inj := fun i j bi bj hi hj hne => hr.inj i j bi bj (hH i bi hi).1 (hH j bj hj).1 hne }
    · rcases h with h | ⟨i, b, _, hl, hp, rfl⟩
      · exact hr.kb k h
      · rcases hr.own i b hl with h | h
        · rw [hp] at h; cases h.1
        · exact h.2.lt_size
    · obtain ⟨hi, hne⟩ := hH i bi h
      refine (hr.own i bi hi).mono2 hK (fun hp hk => ?_) (fun _ _ => rfl) (fun _ _ => rfl) (fun _ h => h) (fun _ _ => rfl) (hr.inS i bi hi)
      rcases hk with hk | ⟨j, b, hd, hl, hp2, he⟩
      · exact hk
      · by_cases e : i = j
        · subst e; exact absurd hd hne
        · exact absurd he (hr.inj i j bi b hi hl e hp hp2)
  · rw [look_append] at h
    cases h1 : look T1 t with
    | some v' =>
      rw [h1] at h
      simp only [Option.some_or, Option.some.injEq] at h
      subst h
      obtain ⟨v, hv, hf⟩ := hT t v' h1
      exact hf _ (ht.tm t v hv)
    | none =>
      rw [h1] at h
      exact (ht.tm t av (by simpa using h)).mono hK (fun _ _ => rfl) (fun _ h => h) (fun _ _ => rfl)
theorem out_vr {K' : Nat → Prop} {id len ty : Nat} {pl : Bool} {rows rows' : List (List AV)} (hr : Rel Old wi K m S H w) (hl : look H id = some ⟨ty, 1, pl, rows⟩) (hk : (m id).ph = false → K' (m id).blk) (hlen : rows'.length = rows.length) (he : len = rows.length)
    (hrow : ∀ (r : Nat) (row' : List AV), rows'[r]? = some row' → ∃ cv cv', row' = [cv'] ∧ rows[r]? = some [cv] ∧ ∀ x, VR K w m (fun i => S i ∧ pl = false) cv x → VR K' w m NoS cv' x) {S' : Nat → Prop} {x : Value} (hv : VR K w m S (.sl id 0 len) x) : VR K' w m S' (.dsl 1 rows') x := by
  cases hv with
  | sl0 _ _ _ ad hS =>
    have : rows' = [] := List.length_eq_zero_iff.1 (by omega)
    subst this; exact .dsl0 _ _ _ _
  | sl _ _ _ _ p c hS hph hp hcc =>
    rcases hr.own id _ hl with ⟨h, _⟩ | ⟨_, hb⟩
    · rw [hph] at h; cases h
    obtain ⟨cur, h1, h2, h3⟩ := hb.ex
    have hcap := hb.cap
    have hsz := hb.sz
    have p0 : p = 0 := by rw [hp, Nat.zero_mul]
    subst p0
    have cell : ∀ (r : Nat) (row' : List AV), rows'[r]? = some row' → ∃ cv' y, row' = [cv'] ∧ w.cell? ⟨(m id).blk, r, none⟩ = some y ∧ y.oneCell' = true ∧ VR K' w m NoS cv' y := by
      intro r row' hr'
      obtain ⟨cv, cv', e1, e2, e3⟩ := hrow r row' hr'
      obtain ⟨y, hy, hone, hvy⟩ := (h3 r _ e2).2 0 cv rfl
      refine ⟨cv', y, e1, ?_, hone, e3 y hvy⟩
      have : w.cell? ⟨(m id).blk, r * 1 + 0, none⟩ = some y := by
        rw [cell_of_row w _ _ _ _ _ h1]; exact hy
      simpa using this
    refine .dsl _ 1 rows' len (m id).blk 0 c (fun r j => (w.cell? ⟨(m id).blk, r, none⟩).getD undef) (he.trans hlen.symm) ?_ (hk hph) (fun r row' h => ?_) (fun r row' j cv h hj => ?_) (fun r row' j cv h hj => ?_)
    · dsimp only at hcap; rw [hlen]; omega
    · obtain ⟨cv', y, e1, _⟩ := cell r row' h; rw [e1]; rfl
    · obtain ⟨cv', y, e1, e2, e3, _⟩ := cell r row' h
      subst e1
      have j0 : j = 0 := by
        cases j with
        | zero => rfl
        | succ j => simp at hj
      subst j0
      rw [show 0 + r * 1 + 0 = r by omega, e2]
      exact ⟨rfl, e3⟩
    · obtain ⟨cv', y, e1, e2, e3, e4⟩ := cell r row' h
      subst e1
      have j0 : j = 0 := by
        cases j with
        | zero => rfl
        | succ j => simp at hj
      subst j0
      simp only [List.getElem?_cons_zero, Option.some.injEq] at hj
      subst hj
      rw [e2]; exact e4
theorem nest_vr {k0 len : Nat} {ty ity : TypeId} {Ls : List (List (List AV))} {D : Nat → Prop} (hr : Rel Old wi K m S H w) (hl : look H k0 = some (nestB ty k0 Ls)) (hn : NstIn H (k0 + 1) (Ls.map (blkR ity))) (hno : ∀ L ∈ Ls, L.all noOwnL = true) (he : len = Ls.length)
    (hD : ∀ i, k0 ≤ i → i ≤ k0 + Ls.length → D i) {x : Value} (hv : VR K w m S (.sl k0 0 len) x) : VR (KD m H D K) w m S (.dsl 1 (Ls.map fun rows => [.dsl 1 rows])) x := by
  have hlen := outR_len (Ls.map List.length) (k0 + 1)
  rw [List.length_map] at hlen
  refine out_vr hr hl (fun hp => .inr ⟨k0, _, hD k0 (Nat.le_refl _) (by omega), hl, hp, rfl⟩) (by rw [List.length_map, hlen]) (by rw [hlen]; exact he) (fun r row' h => ?_) hv
  rw [List.getElem?_map] at h
  cases hr' : Ls[r]? with
  | none => rw [hr'] at h; cases h
  | some rows =>
    rw [hr'] at h
    simp only [Option.map_some, Option.some.injEq] at h
    have hrl : r < Ls.length := (List.getElem?_eq_some_iff.1 hr').1
    refine ⟨.sl (k0 + 1 + r) 0 rows.length, .dsl 1 rows, h.symm, ?_, fun y hy => ?_⟩
    · show (outR (k0 + 1) (Ls.map List.length))[r]? = _
      rw [outR_get, List.getElem?_map, hr']; rfl
    · have hb := hn r (blkR ity rows) (by rw [List.getElem?_map, hr']; rfl)
      have hf : Frz (k0 + 1 + r) (blkR ity rows) (.sl (k0 + 1 + r) 0 rows.length) (.dsl 1 rows) := by
        have := Frz.sl (id := k0 + 1 + r) (b := blkR ity rows) 0 rows.length (by show 0 + rows.length ≤ rows.length; omega)
        have e : ((blkR ity rows).rows.drop 0).take rows.length = rows := by show (rows.drop 0).take rows.length = rows; rw [List.drop_zero, List.take_length]
        rw [e] at this; exact this
      have := hf.vr hr hb (Closed.of (hno rows (List.mem_of_getElem? hr'))) (K' := KD m H D K) (fun k h => .inl h) (fun hp => .inr ⟨k0 + 1 + r, _, hD _ (by omega) (by omega), hb, hp, rfl⟩) (S' := NoS) (hy.mono (fun _ h => h) (fun _ _ => rfl) (fun _ h => h.1) (fun _ _ => rfl))
      exact this
theorem sq_frzN {all : Array Oper} {l : List Oper} {G : Tp → Hp → Nat → Prop} {t k0 len : Nat} {ty ity : TypeId} (Ls : List (List (List AV))) (rows : List (List AV)) (H' : Hp) (ht : look T t = some (.sl k0 0 len)) (hl : look H k0 = some (nestB ty k0 Ls)) (hn : NstIn H (k0 + 1) (Ls.map (blkR ity))) (hno : ∀ L ∈ Ls, L.all noOwnL = true) (he : len = Ls.length)
    (hrr : (Ls.map fun rows => [.dsl 1 rows]) = rows) (hH : ∀ i b, look H' i = some b → look H i = some b ∧ ¬ (k0 ≤ i ∧ i ≤ k0 + Ls.length)) (h : SQ P N all l G ((t, .dsl 1 rows) :: T) H' n) : SQ P N all l G T H n := by
  subst hrr
  intro Old wi K m a w Q hr htt hq
  obtain ⟨gk, hr', ht'⟩ := kd_rel (D := fun i => k0 ≤ i ∧ i ≤ k0 + Ls.length) (T1 := [(t, .dsl 1 (Ls.map fun rows => [.dsl 1 rows]))]) hr htt hH fun u v' hu => by
    rw [look_cons] at hu
    split at hu
    · rename_i e
      subst e
      cases hu
      exact ⟨_, ht, fun x hx => nest_vr hr hl hn hno he (fun i h1 h2 => ⟨h1, h2⟩) hx⟩
    · simp [look_nil] at hu
  exact h Old wi _ m a w Q hr' ht' fun T' H' n' m' K'' a' w' g2 => hq T' H' n' m' K'' a' w' (gk.trans g2)
end
end Go.Proofs.Yteknfaldpajlpaa.Aw

namespace Go.Proofs.Yteknfaldpajlpaa.Nb
open Go Go.RowKit Go.Proofs.Yteknfaldpajlpaa.Aw Go.Proofs.Yteknfaldpajlpaa.In Go.Proofs.Yteknfaldpajlpaa.Il
set_option linter.unusedSimpArgs false
set_option linter.unusedVariables false
set_option linter.unusedSectionVars false
attribute [local irreducible] AW SQ Step RO RC DE Thn InB
set_option maxHeartbeats 4000000 in
theorem l00Max_ro (a b : Int) (k : Nat) : RO Try.prog 94 [.v (.int .i64 a), .v (.int .i64 b)] k (.v (.int .i64 (max a b))) [] k := by
  by_cases c : b < a
  · have b1 : decide (b < a) = true := by simpa using c
    have e : max a b = a := by omega
    rw [e]
    refine RO.ofv' Try.func94 Try.ntmps94 rfl (goFn_of Try.func94 rfl (by kernel_rfl)) rfl rfl ?_
    ((repeat' (first
    | (show SQ _ _ _ _ _ _ _ _; first | apply sq_nil | (apply q_move; exact rfl; exact rfl) | (apply q_assign; exact rfl; exact rfl) | (apply q_gtr; exact rfl; exact rfl; exact rfl))
    | (show AW _ _ _ _ _ _ _ _; first | refine aw_region ?_ | (refine aw_seqk ?_; intro K hK) | (apply aw_cond_t; exact rfl; exact (by assumption)) | refine aw_ret ?_)
    | refine thn_n ?_
    | (refine hK _ _ _ ?_; clear hK K)
    | refine thn_r ?_)); all_goals (repeat (clear hK K)))
    all_goals exact fin_r (fin_i rfl rfl)
  · have b1 : decide (b < a) = false := by simpa using c
    have e : max a b = b := by omega
    rw [e]
    refine RO.ofv' Try.func94 Try.ntmps94 rfl (goFn_of Try.func94 rfl (by kernel_rfl)) rfl rfl ?_
    ((repeat' (first
    | (show SQ _ _ _ _ _ _ _ _; first | apply sq_nil | (apply q_move; exact rfl; exact rfl) | (apply q_assign; exact rfl; exact rfl) | (apply q_gtr; exact rfl; exact rfl; exact rfl))
    | (show AW _ _ _ _ _ _ _ _; first | refine aw_region ?_ | (refine aw_seqk ?_; intro K hK) | (apply aw_cond_f; exact rfl; exact (by assumption)) | refine aw_ret ?_ | refine aw_skip ?_)
    | refine thn_n ?_
    | (refine hK _ _ _ ?_; clear hK K))); all_goals (repeat (clear hK K)))
    all_goals exact fin_r (fin_i rfl rfl)
theorem nearB_symm (ls : List (List Int)) (i j : Nat) : nearB ls i j = nearB ls j i := Bool.or_comm _ _
theorem barB_cl (ls : List (List Int)) {i j : Nat} (h : i ≠ j) : barB ls j i = clB ls i j := by
  have h1 : (i != j) = true := by simpa using h
  unfold barB clB secB shareB
  rw [h1, Bool.true_and, nearB_symm ls j i]
  congr 1
  rw [Bool.eq_iff_iff, List.any_eq_true, List.any_eq_true]
  constructor
  · rintro ⟨x, hx, h⟩
    exact ⟨x, hx, by rw [nearB_symm ls i x, nearB_symm ls x j, Bool.and_comm]; exact h⟩
  · rintro ⟨x, hx, h⟩
    exact ⟨x, hx, by rw [nearB_symm ls j x, nearB_symm ls x i, Bool.and_comm]; exact h⟩
set_option maxHeartbeats 4000000 in
theorem l23Free_ro (ls : List (List Int)) (hN : ls.length ≤ 24) (cs : List Int) (c : Int) (hc : cs.length < ls.length) (k : Nat) :
    RO Try.prog 93 [.dsl 1 (dT ls.length (barB ls)), .dsl 1 (cs.map inL), .v (.int .i64 c)] k (.v (.bool (!earB ls cs c))) [] k := by
  have hml : (cs.map inL).length = cs.length := List.length_map _
  have hdl := dT_len ls.length (barB ls)
  have hrow := dT_at (f := barB ls) hc
  have htl := tabR_len ls.length (barB ls cs.length)
  refine RO.ofv' Try.func93 Try.ntmps93 rfl (goFn_of Try.func93 rfl (by kernel_rfl)) rfl rfl ?_
  rw [← hml] at hrow
  ((repeat' (first
    | (show SQ _ _ _ _ _ _ _ _; first | apply sq_nil | (apply q_move; exact rfl; exact rfl) | (apply q_assign; exact rfl; exact rfl) | (apply q_lend; exact rfl; exact rfl; exact (ty rfl); exact rfl))
    | (show AW _ _ _ _ _ _ _ _; first | refine aw_region ?_ | (refine aw_seqk ?_; intro K hK) | refine aw_block ?_)
    | refine thn_n ?_
    | (refine hK _ _ _ ?_; clear hK K))); all_goals (repeat (clear hK K)))
  rw [hml] at hrow ⊢
  refine aw_loop (ρ := id) (ι := Nat) (fun i => ([(8, .v (.int .i64 i)), (7, .v (.int .i64 cs.length)), (2, .v (.int .i64 c)), (1, .dsl 1 (cs.map inL)), (0, .dsl 1 (dT ls.length (barB ls)))], [], 0))
    (fun i => i ≤ cs.length ∧ ∀ j, j < i → (cs.getD j 0 == c && clB ls j cs.length) = false) (fun i => cs.length - i) 0 ⟨Nat.zero_le _, fun j hj => absurd hj (Nat.not_lt_zero _)⟩ ⟨by (repeat (refine ⟨by first | exact lk_i rfl rfl | exact lk_d rfl rfl, ?_⟩)); exact trivial, by exact trivial, by rfl, by exact pin_0⟩ ?_
  rintro i ⟨hi, hg⟩
  by_cases c1 : i < cs.length
  · have b1 : decide ((i : Int) < (cs.length : Int)) = true := by simpa using c1
    have hr2 : (cs.map inL)[((i : Int)).toNat]? = some (inL cs[i]) := by simp [c1]
    rw [inL_eq] at hr2
    have hD : cs.getD i 0 = cs[i] := by simp [List.getD, c1]
    have hw : IntKind.i64.wrap ((i : Int) + 1) = ((i + 1 : Nat) : Int) := by rw [IntWalk.i64_in _ (by omega)]; omega
    have hcell := tabR_i (f := barB ls cs.length) (show i < ls.length by omega)
    have hcl := barB_cl ls (show i ≠ cs.length by omega)
    rw [hcl] at hcell
    have hno : (cs.getD i 0 == c && clB ls i cs.length) = false → ∀ j, j < i + 1 → (cs.getD j 0 == c && clB ls j cs.length) = false := fun h j hj => by
      by_cases hjq : j < i
      · exact hg j hjq
      · obtain rfl : j = i := by omega
        exact h
    cases hb : clB ls i cs.length with
    | false =>
      rw [hb] at hcell hno
      ((repeat' (first
    | (show SQ _ _ _ _ _ _ _ _; first | apply sq_nil | (apply q_move; exact rfl; exact rfl) | (apply q_assign; exact rfl; exact rfl) | (apply q_pick_f; exact rfl; exact rfl; exact rfl; exact (by first | assumption | exact rfl)) | (apply q_add; exact rfl; exact rfl; exact rfl) | (apply q_lss; exact rfl; exact rfl; exact rfl) | (apply q_ixd; exact rfl; exact rfl; exact rfl; exact (ty rfl); exact rfl; exact (by first | omega | (simp; done) | (simp; omega)); exact (by first | omega | (simp; done) | (simp; omega)); exact (by first | rfl | assumption)) | (apply q_ld1d; exact rfl; exact rfl; exact (ty rfl); exact rfl; exact rfl) | (apply q_s; exact rfl; exact rfl; exact rfl; exact rfl; exact rfl))
    | (show AW _ _ _ _ _ _ _ _; first | refine aw_region ?_ | (refine aw_seqk ?_; intro K hK) | refine aw_block ?_ | (apply aw_cond_f; exact rfl; exact rfl) | (apply aw_cond_t; exact rfl; exact (by assumption)) | refine aw_skip ?_)
    | refine thn_n ?_
    | (refine hK _ _ _ ?_; clear hK K)
    | refine inb_n ?_)); all_goals (repeat (clear hK K)))
      all_goals (refine ⟨i + 1, id, ⟨c1, hno (Bool.and_false _)⟩, by omega, ?_⟩; (try dsimp only); rw [← hw]; exact ⟨by (repeat (refine ⟨by first | exact lk_i rfl rfl | exact lk_d rfl rfl, ?_⟩)); exact trivial, by exact trivial, by rfl, by exact pin_0⟩)
    | true =>
      rw [hb] at hcell hno
      cases he : (cs[i] == c) with
      | true =>
        ((repeat' (first
    | (show SQ _ _ _ _ _ _ _ _; first | apply sq_nil | (apply q_move; exact rfl; exact rfl) | (apply q_assign; exact rfl; exact rfl) | (apply q_pick_t; exact rfl; exact rfl; exact rfl; exact (by first | assumption | exact rfl)) | (apply q_eql; exact rfl; exact rfl; exact rfl) | (apply q_lss; exact rfl; exact rfl; exact rfl) | (apply q_ixd; exact rfl; exact rfl; exact rfl; exact (ty rfl); exact rfl; exact (by first | omega | (simp; done) | (simp; omega)); exact (by first | omega | (simp; done) | (simp; omega)); exact (by first | rfl | assumption)) | (apply q_ld1d; exact rfl; exact rfl; exact (ty rfl); exact rfl; exact rfl) | (apply q_g; exact rfl; exact rfl; exact rfl; exact rfl))
    | (show AW _ _ _ _ _ _ _ _; first | refine aw_region ?_ | (refine aw_seqk ?_; intro K hK) | refine aw_block ?_ | (apply aw_cond_t; exact rfl; exact (by assumption)) | refine aw_ret ?_ | refine aw_skip ?_)
    | refine thn_n ?_
    | (refine hK _ _ _ ?_; clear hK K)
    | refine thn_r ?_
    | refine inb_r ?_)); all_goals (repeat (clear hK K)))
        all_goals refine fin_r (fin_b rfl ?_)
        have : earB ls cs c = true := anyR_true c1 (by rw [hD, hb, he]; rfl)
        rw [this]; rfl
      | false =>
        ((repeat' (first
    | (show SQ _ _ _ _ _ _ _ _; first | apply sq_nil | (apply q_move; exact rfl; exact rfl) | (apply q_assign; exact rfl; exact rfl) | (apply q_pick_t; exact rfl; exact rfl; exact rfl; exact (by first | assumption | exact rfl)) | (apply q_add; exact rfl; exact rfl; exact rfl) | (apply q_eql; exact rfl; exact rfl; exact rfl) | (apply q_lss; exact rfl; exact rfl; exact rfl) | (apply q_ixd; exact rfl; exact rfl; exact rfl; exact (ty rfl); exact rfl; exact (by first | omega | (simp; done) | (simp; omega)); exact (by first | omega | (simp; done) | (simp; omega)); exact (by first | rfl | assumption)) | (apply q_ld1d; exact rfl; exact rfl; exact (ty rfl); exact rfl; exact rfl) | (apply q_g; exact rfl; exact rfl; exact rfl; exact rfl))
    | (show AW _ _ _ _ _ _ _ _; first | refine aw_region ?_ | (refine aw_seqk ?_; intro K hK) | refine aw_block ?_ | (apply aw_cond_t; exact rfl; exact (by assumption)) | (apply aw_cond_f; exact rfl; exact (by assumption)) | refine aw_skip ?_)
    | refine thn_n ?_
    | (refine hK _ _ _ ?_; clear hK K)
    | refine inb_n ?_)); all_goals (repeat (clear hK K)))
        all_goals (refine ⟨i + 1, id, ⟨c1, hno (by rw [hD, he]; rfl)⟩, by omega, ?_⟩; (try dsimp only); rw [← hw]; exact ⟨by (repeat (refine ⟨by first | exact lk_i rfl rfl | exact lk_d rfl rfl, ?_⟩)); exact trivial, by exact trivial, by rfl, by exact pin_0⟩)
  · have b1 : decide ((i : Int) < (cs.length : Int)) = false := by simpa using c1
    ((repeat' (first
    | (show SQ _ _ _ _ _ _ _ _; first | apply sq_nil | (apply q_move; exact rfl; exact rfl) | (apply q_assign; exact rfl; exact rfl) | (apply q_lss; exact rfl; exact rfl; exact rfl))
    | (show AW _ _ _ _ _ _ _ _; first | refine aw_region ?_ | (refine aw_seqk ?_; intro K hK) | (apply aw_cond_f; exact rfl; exact (by assumption)) | refine aw_ret ?_ | refine aw_exit ?_)
    | refine thn_n ?_
    | (refine hK _ _ _ ?_; clear hK K)
    | refine thn_e ?_
    | refine inb_same ?_
    | (clear hK K; refine hK _ _ _ ?_; clear hK K))); all_goals (repeat (clear hK K)))
    all_goals refine fin_r (fin_b rfl ?_)
    have : earB ls cs c = false := anyR_false fun j hj => hg j (by omega)
    rw [this]; rfl
end Go.Proofs.Yteknfaldpajlpaa.Nb

namespace Go.Proofs.Yteknfaldpajlpaa.Nb
open Go Go.RowKit Go.Proofs.Yteknfaldpajlpaa.Aw Go.Proofs.Yteknfaldpajlpaa.In Go.Proofs.Yteknfaldpajlpaa.Il
set_option linter.unusedSimpArgs false
set_option linter.unusedVariables false
set_option linter.unusedSectionVars false
attribute [local irreducible] AW SQ Step RO RC DE Thn InB
def fdR (ls : List (List Int)) (m bu b : Int) (id len : Nat) : List (List AV) := [[.dsl 1 (dT ls.length (barB ls)), .sl id 0 len, .v (.int .i64 m), .v (.int .i64 (bu - max b 0)), .v (.int .i64 bu), .v (.bool (decide (b < 0)))]]
section
variable (ls : List (List Int)) (m bu : Int) (hm : 0 ≤ m ∧ m ≤ 100) (hbu : 1 ≤ bu ∧ bu ≤ 20000)
include hm hbu
set_option maxHeartbeats 4000000 in
theorem run_rc : ∀ (r : Nat) (used : Int) (st : Int × List Int), r ≤ ls.length → ls.length ≤ 24 → 0 ≤ used → used ≤ ((ls.length - r : Nat) : Int) → 0 ≤ st.1 → st.1 ≤ bu → ls.length - r ≤ st.2.length → (r = 0 → st.2.length = ls.length) → ∀ (b c : Nat), b ≠ c → ∀ k,
    RC Try.prog 61 [.ptr b 0 0, .v (.int .i64 used)] [(b, ⟨81, 6, false, fdR ls m bu st.1 c (ls.length - r)⟩), (c, ⟨2, 1, true, st.2.map inL⟩)] k (.v (.bool (ext ls m r used st).1))
      [(b, some ⟨81, 6, false, fdR ls m bu (ext ls m r used st).2.1 k (if (ext ls m r used st).1 = true then ls.length else ls.length - r)⟩), (c, none), (k, some ⟨2, 1, true, (ext ls m r used st).2.2.map inL⟩)] (k + 1)
  | 0, used, st, hr, hN, u0, u1, s0, s1, hl, h0, b, c, hbc, k => by
    have hll := dT_len ls.length (barB ls)
    have b1 : (((ls.length - 0 : Nat) : Int) == ((dT ls.length (barB ls)).length : Int)) = true := by rw [hll]; simp
    show RC Try.prog _ _ _ k (.v (.bool true)) [(b, some ⟨81, 6, false, fdR ls m bu st.1 k ls.length⟩), (c, none), (k, some ⟨2, 1, true, st.2.map inL⟩)] (k + 1)
    unfold fdR
    generalize bu - max st.1 0 = nd
    generalize decide (st.1 < 0) = fl
    refine RC.ofc [b, c] 1 [.ptr 0 0 0, .v (.int .i64 used)] [(0, ⟨81, 6, false, [[.dsl 1 (dT ls.length (barB ls)), .sl 1 0 (ls.length - 0), .v (.int .i64 m), .v (.int .i64 nd), .v (.int .i64 bu), .v (.bool fl)]]⟩), (1, ⟨2, 1, true, st.2.map inL⟩)] (.v (.bool true)) [(0, some ⟨81, 6, false, [[.dsl 1 (dT ls.length (barB ls)), .sl 2 0 ls.length, .v (.int .i64 m), .v (.int .i64 nd), .v (.int .i64 bu), .v (.bool fl)]]⟩), (1, none), (2, some ⟨2, 1, true, st.2.map inL⟩)] Try.func61 Try.ntmps61 rfl (goFn_of Try.func61 rfl (by kernel_rfl)) rfl rfl rfl rfl rfl rfl rfl rfl (by simp_all) rfl ?_
    ((repeat' (first
    | (show SQ _ _ _ _ _ _ _ _; first | apply sq_nil | (apply q_assign; exact rfl; exact rfl))
    | (show DE _ _ _ _ _ _ _ _ _ _ _ _; first | (apply e_move; exact rfl; exact rfl; exact rfl) | (apply e_fieldAddr; exact rfl; exact rfl; exact (ty rfl); exact rfl; exact rfl; exact rfl; exact rfl; exact rfl) | (apply e_nilc; exact rfl; exact rfl; exact rfl; exact rfl) | (apply e_lend; exact rfl; exact rfl; exact (ty rfl); exact rfl; exact rfl) | (apply e_lenl; exact rfl; exact rfl; exact (ty rfl); exact rfl; exact rfl) | (apply e_eql; exact rfl; exact rfl; exact rfl; exact rfl) | (apply e_ld1p; exact rfl; exact rfl; exact (ty rfl); exact rfl; exact rfl; exact (by first | rfl | assumption | ((try simp only [Nat.zero_add]); refine List.getElem?_set_self ?_; (try simp only [List.length_set]); assumption)); exact rfl; exact rfl))
    | (show DE _ _ _ _ _ _ _ _ _ _ _ _; (first | (apply dr_nil; exact trivial)); (try simp only [put, rowsOf, plR, List.all_cons, selE, ovr, setH, del, cellsA, splice, isV, List.nil_append, List.cons_append, List.map_cons, List.map_nil, List.length_cons, List.length_nil, List.set_cons_zero, List.set_cons_succ, List.take_succ_cons, List.take_zero, List.take_nil, List.drop_succ_cons, List.drop_zero, List.drop_nil, List.append_nil, List.all_cons, List.all_nil, Bool.and_true, Bool.true_and, Bool.and_false, Bool.false_and, Nat.reduceAdd, Nat.zero_add, Nat.add_zero, Nat.reduceEqDiff, if_true, if_false, reduceIte]))
    | (show AW _ _ _ _ _ _ _ _; first | refine aw_region ?_ | (refine aw_seqk ?_; intro K hK) | (apply aw_cond_t; exact rfl; exact (by assumption)) | refine aw_ret ?_ | refine aw_drawE (id := 1) [0, 1, 3, 7, 15, 0, 32, 96, 224, 480, 1023] [0, 0, 0, 1, 0, 0, 0, 0, 1, 0, 0] mixed (by kernel_rfl) ?_)
    | refine thn_n ?_
    | (refine hK _ _ _ ?_; clear hK K)
    | refine thn_r ?_)); all_goals (repeat (clear hK K)))
    all_goals exact finc (mv 2 1) (.r1 _ _ (.tmp _ _ rfl)) rfl (fun z hz => by simp at hz; simp [mv]; omega) ⟨rfl, rfl, trivial⟩ rfl
  | r + 1, used, st, hr, hN, u0, u1, s0, s1, hl, h0, b, c, hbc, k => by
    have ih := run_rc r
    have hll := dT_len ls.length (barB ls)
    have hkp := fun q1 q2 q3 q4 q5 => ext_keep (ls := ls) (m := m) r q1 q2 q3 q4 q5
    have b1 : (((ls.length - (r + 1) : Nat) : Int) == ((dT ls.length (barB ls)).length : Int)) = false := by rw [hll]; simp only [beq_eq_false_iff_ne, ne_eq]; omega
    have hQ : ext ls m (r + 1) used st = extG (ext ls m r) ls (ls.length - (r + 1)) used (extN m used) 0 st := rfl
    rw [hQ]
    generalize hlen : ls.length - (r + 1) = len at *
    have hlen1 : ls.length - r = len + 1 := by omega
    have hK : extN m used = (min m (used + 1)).toNat := rfl
    generalize extN m used = KK at *
    generalize hQQ : extG (ext ls m r) ls len used KK 0 st = Q
    unfold fdR
    refine RC.ofc [b, c] 1 [.ptr 0 0 0, .v (.int .i64 used)] [(0, ⟨81, 6, false, [[.dsl 1 (dT ls.length (barB ls)), .sl 1 0 len, .v (.int .i64 m), .v (.int .i64 (bu - max st.1 0)), .v (.int .i64 bu), .v (.bool (decide (st.1 < 0)))]]⟩), (1, ⟨2, 1, true, st.2.map inL⟩)] (.v (.bool Q.1)) [(0, some ⟨81, 6, false, [[.dsl 1 (dT ls.length (barB ls)), .sl 2 0 (if Q.1 = true then ls.length else len), .v (.int .i64 m), .v (.int .i64 (bu - max Q.2.1 0)), .v (.int .i64 bu), .v (.bool (decide (Q.2.1 < 0)))]]⟩), (1, none), (2, some ⟨2, 1, true, Q.2.2.map inL⟩)] Try.func61 Try.ntmps61 rfl (goFn_of Try.func61 rfl (by kernel_rfl)) rfl rfl rfl rfl rfl rfl rfl rfl (by simp_all) rfl ?_
    ((repeat' (first
    | (show SQ _ _ _ _ _ _ _ _; first | apply sq_nil | (apply q_assign; exact rfl; exact rfl))
    | (show DE _ _ _ _ _ _ _ _ _ _ _ _; first | (apply e_move; exact rfl; exact rfl; exact rfl) | (apply e_fieldAddr; exact rfl; exact rfl; exact (ty rfl); exact rfl; exact rfl; exact rfl; exact rfl; exact rfl) | (apply e_nilc; exact rfl; exact rfl; exact rfl; exact rfl) | (apply e_lend; exact rfl; exact rfl; exact (ty rfl); exact rfl; exact rfl) | (apply e_lenl; exact rfl; exact rfl; exact (ty rfl); exact rfl; exact rfl) | (apply e_eql; exact rfl; exact rfl; exact rfl; exact rfl) | (apply e_ld1p; exact rfl; exact rfl; exact (ty rfl); exact rfl; exact rfl; exact (by first | rfl | assumption | ((try simp only [Nat.zero_add]); refine List.getElem?_set_self ?_; (try simp only [List.length_set]); assumption)); exact rfl; exact rfl))
    | (show DE _ _ _ _ _ _ _ _ _ _ _ _; (first | (apply dr_nil; exact trivial)); (try simp only [put, rowsOf, plR, List.all_cons, selE, ovr, setH, del, cellsA, splice, isV, List.nil_append, List.cons_append, List.map_cons, List.map_nil, List.length_cons, List.length_nil, List.set_cons_zero, List.set_cons_succ, List.take_succ_cons, List.take_zero, List.take_nil, List.drop_succ_cons, List.drop_zero, List.drop_nil, List.append_nil, List.all_cons, List.all_nil, Bool.and_true, Bool.true_and, Bool.and_false, Bool.false_and, Nat.reduceAdd, Nat.zero_add, Nat.add_zero, Nat.reduceEqDiff, if_true, if_false, reduceIte]))
    | (show AW _ _ _ _ _ _ _ _; first | refine aw_region ?_ | (refine aw_seqk ?_; intro K hK) | refine aw_block ?_ | (apply aw_cond_f; exact rfl; exact (by assumption)) | refine aw_skip ?_ | refine aw_drawE (id := 1) [0, 1, 3, 7, 15, 0, 32, 96, 224, 480, 1023] [0, 0, 0, 1, 0, 0, 0, 0, 1, 0, 0] mixed (by kernel_rfl) ?_)
    | refine thn_n ?_
    | (refine hK _ _ _ ?_; clear hK K))); all_goals (repeat (clear hK K)))
    show AW _ _ 2 _ _ _ _ _
    refine aw_loop (ρ := mv 2 1) (ι := Nat × (Int × List Int)) (fun s => ([(5, .v (.int .i64 (s.1 : Int))), (1, .v (.int .i64 used)), (0, .ptr 0 0 0)],
        [(0, ⟨81, 6, false, [[.dsl 1 (dT ls.length (barB ls)), .sl 2 0 len, .v (.int .i64 m), .v (.int .i64 (bu - max s.2.1 0)), .v (.int .i64 bu), .v (.bool (decide (s.2.1 < 0)))]]⟩), (2, ⟨2, 1, true, s.2.2.map inL⟩)], 3))
      (fun s => s.1 ≤ KK ∧ -1 ≤ s.2.1 ∧ s.2.1 ≤ bu ∧ len ≤ s.2.2.length ∧ ((0 ≤ s.2.1 ∧ extG (ext ls m r) ls len used (KK - s.1) s.1 s.2 = Q) ∨ (s.2.1 = -1 ∧ Q = (false, (-1, s.2.2))))) (fun s => KK - s.1) (0, st) ⟨Nat.zero_le _, by dsimp only; omega, s1, hl, .inl ⟨s0, hQQ⟩⟩ ⟨by (repeat (refine ⟨by first | exact lk_i rfl rfl | exact lk_r rfl rfl rfl, ?_⟩)); exact trivial, by (repeat (refine ⟨by first | exact ⟨rfl, rfl, rfl⟩, ?_⟩)); exact trivial, by rfl, by (intro i hi; (try dsimp only); refine ⟨?_, ?_⟩ <;> first | rfl | omega | (simp [mv]; omega))⟩ ?_
    rintro ⟨x, b2, bf⟩ ⟨hx, t0, t1, tl, hg⟩
    dsimp only at hx t0 t1 tl hg
    by_cases c1 : x < KK
    · have d1 : decide ((x : Int) < m) = true := by rw [decide_eq_true_eq]; omega
      have d2 : decide ((x : Int) ≤ used) = true := by rw [decide_eq_true_eq]; omega
      have hw : IntKind.i64.wrap ((x : Int) + 1) = ((x + 1 : Nat) : Int) := by rw [IntWalk.i64_in _ (by omega)]; omega
      have hw2 : IntKind.i64.wrap ((x : Int) + 1) = (x : Int) + 1 := IntWalk.i64_in _ (by omega)
      have htl : (bf.take len).length = len := by rw [List.length_take]; omega
      have hE := l23Free_ro ls hN (bf.take len) (x : Int) (by omega)
      have hml : (bf.map inL).length = bf.length := List.length_map _
      have hdt : ((bf.map inL).drop 0).take len = (bf.take len).map inL := by rw [List.drop_zero, List.map_take]
      rcases hg with ⟨hb0, hg⟩ | ⟨rfl, hg⟩
      · obtain ⟨j, hj⟩ : ∃ j, KK - x = j + 1 := ⟨KK - x - 1, by omega⟩
        have hj2 : KK - (x + 1) = j := by omega
        rw [hj, extG] at hg
        have en : bu - max b2 0 = bu - b2 := by omega
        have ef : decide (b2 < 0) = false := by simpa using hb0
        dsimp only
        rw [en, ef]
        cases c2 : earB ls (bf.take len) (x : Int) with
        | true =>
          rw [c2] at hE hg
          rw [if_pos rfl] at hg
          have d3 : (!!true) = true := rfl
          ((repeat' (first
    | (show SQ _ _ _ _ _ _ _ _; first | apply sq_nil | (apply q_move; exact rfl; exact rfl) | (apply q_assign; exact rfl; exact rfl) | (apply q_pick_t; exact rfl; exact rfl; exact rfl; exact (by first | assumption | exact rfl)) | (apply q_fieldAddr; exact rfl; exact rfl; exact (ty rfl); exact rfl; exact rfl; exact rfl; exact rfl) | (apply q_nilc; exact rfl; exact rfl; exact rfl) | (apply q_add; exact rfl; exact rfl; exact rfl) | (apply q_lss; exact rfl; exact rfl; exact rfl) | (apply q_leq; exact rfl; exact rfl; exact rfl) | (apply q_ld1p; exact rfl; exact rfl; exact (ty rfl); exact rfl; exact rfl; exact (by first | rfl | assumption | ((try simp only [Nat.zero_add]); refine List.getElem?_set_self ?_; (try simp only [List.length_set]); assumption)); exact rfl) | (apply q_g; exact rfl; exact rfl; exact rfl; exact (by assumption)))
    | (show DE _ _ _ _ _ _ _ _ _ _ _ _; first | (apply e_move; exact rfl; exact rfl; exact rfl) | (apply e_fieldAddr; exact rfl; exact rfl; exact (ty rfl); exact rfl; exact rfl; exact rfl; exact rfl; exact rfl) | (apply e_nilc; exact rfl; exact rfl; exact rfl; exact rfl) | (apply e_not; exact rfl; exact rfl; exact rfl) | (apply e_ld1p; exact rfl; exact rfl; exact (ty rfl); exact rfl; exact rfl; exact (by first | rfl | assumption | ((try simp only [Nat.zero_add]); refine List.getElem?_set_self ?_; (try simp only [List.length_set]); assumption)); exact rfl; exact rfl))
    | (show DE _ _ _ _ _ _ _ _ _ _ _ _; (first | (apply dr_nil; exact trivial) | (apply e_callU; exact rfl; exact rfl; exact rfl; rotate_left; exact hE _; exact rfl; rotate_right; focus ((repeat' (first | exact FzL.nil | exact (by assumption : FzC _) _ | refine FzL.cons ?_ ?_ | exact Fz.of rfl | exact Fz.nil | exact Fz.emp | (apply Fz.fnC; assumption) | (apply Fz.sl2; exact rfl; exact (by first | omega | (simp; done) | (simp; omega)); first | exact rfl | exact dt_full (by first | omega | (simp; done) | (simp; omega)) | assumption) | apply Fz.agg | (apply Fz.ptrL; exact rfl; first | exact rfl | assumption) | apply Fz.fnL)); done))); (try simp only [put, rowsOf, plR, List.all_cons, selE, ovr, setH, del, cellsA, splice, isV, List.nil_append, List.cons_append, List.map_cons, List.map_nil, List.length_cons, List.length_nil, List.set_cons_zero, List.set_cons_succ, List.take_succ_cons, List.take_zero, List.take_nil, List.drop_succ_cons, List.drop_zero, List.drop_nil, List.append_nil, List.all_cons, List.all_nil, Bool.and_true, Bool.true_and, Bool.and_false, Bool.false_and, Nat.reduceAdd, Nat.zero_add, Nat.add_zero, Nat.reduceEqDiff, if_true, if_false, reduceIte]))
    | (show AW _ _ _ _ _ _ _ _; first | refine aw_region ?_ | (refine aw_seqk ?_; intro K hK) | refine aw_block ?_ | (apply aw_cond_t; exact rfl; exact rfl) | (apply aw_cond_t; exact rfl; exact (by assumption)) | refine aw_exit ?_ | refine aw_skip ?_ | refine aw_drawE (id := 6) [0, 1, 3, 7, 0, 16, 48, 112, 0, 511, 1023] [0, 0, 0, 1, 0, 0, 0, 1, 0, 1, 0] mixed (by kernel_rfl) ?_)
    | refine thn_n ?_
    | (refine hK _ _ _ ?_; clear hK K)
    | refine thn_e ?_
    | refine inb_same ?_
    | (clear hK K; refine hK _ _ _ ?_; clear hK K))); all_goals (repeat (clear hK K)))
          all_goals (refine ⟨(x + 1, (b2, bf)), id, ⟨c1, t0, t1, tl, .inl ⟨hb0, by rw [hj2]; exact hg⟩⟩, by dsimp only; omega, ?_⟩; (try dsimp only); rw [en, ef, ← hw]; exact ⟨by (repeat (refine ⟨by first | exact lk_i rfl rfl | exact lk_r rfl rfl rfl, ?_⟩)); exact trivial, by (repeat (refine ⟨by first | exact ⟨rfl, rfl, rfl⟩, ?_⟩)); exact trivial, by rfl, by (intro i hi; (try dsimp only); refine ⟨?_, ?_⟩ <;> first | rfl | omega | (simp at hi; omega) | (simp; omega))⟩)
        | false =>
          rw [c2] at hE hg
          rw [if_neg (by simp)] at hg
          dsimp only at hg
          by_cases c3 : b2 - 1 < 0
          · obtain rfl : b2 = 0 := by omega
            rw [if_pos c3] at hg
            have d4 : (bu - 0 == bu) = true := by simp
            subst hg
            ((repeat' (first
    | (show SQ _ _ _ _ _ _ _ _; first | apply sq_nil | (apply q_move; exact rfl; exact rfl) | (apply q_assign; exact rfl; exact rfl) | (apply q_pick_t; exact rfl; exact rfl; exact rfl; exact (by first | assumption | exact rfl)) | (apply q_fieldAddr; exact rfl; exact rfl; exact (ty rfl); exact rfl; exact rfl; exact rfl; exact rfl) | (apply q_nilc; exact rfl; exact rfl; exact rfl) | (apply q_lss; exact rfl; exact rfl; exact rfl) | (apply q_leq; exact rfl; exact rfl; exact rfl) | (apply q_ld1p; exact rfl; exact rfl; exact (ty rfl); exact rfl; exact rfl; exact (by first | rfl | assumption | ((try simp only [Nat.zero_add]); refine List.getElem?_set_self ?_; (try simp only [List.length_set]); assumption)); exact rfl) | (apply q_g; exact rfl; exact rfl; exact rfl; exact (by assumption)))
    | (show SQ _ _ _ _ _ _ _ _; (first | (apply q_store; exact rfl; exact rfl; exact (ty rfl); exact rfl; exact (by first | rfl | assumption | ((try simp only [Nat.zero_add]); refine List.getElem?_set_self ?_; (try simp only [List.length_set]); assumption)); exact rfl; exact rfl; exact rfl)); (try simp only [put, rowsOf, plR, List.all_cons, selE, ovr, setH, del, cellsA, splice, isV, List.nil_append, List.cons_append, List.map_cons, List.map_nil, List.length_cons, List.length_nil, List.set_cons_zero, List.set_cons_succ, List.take_succ_cons, List.take_zero, List.take_nil, List.drop_succ_cons, List.drop_zero, List.drop_nil, List.append_nil, List.all_cons, List.all_nil, Bool.and_true, Bool.true_and, Bool.and_false, Bool.false_and, Nat.reduceAdd, Nat.zero_add, Nat.add_zero, Nat.reduceEqDiff, if_true, if_false, reduceIte]))
    | (show DE _ _ _ _ _ _ _ _ _ _ _ _; first | (apply e_move; exact rfl; exact rfl; exact rfl) | (apply e_fieldAddr; exact rfl; exact rfl; exact (ty rfl); exact rfl; exact rfl; exact rfl; exact rfl; exact rfl) | (apply e_nilc; exact rfl; exact rfl; exact rfl; exact rfl) | (apply e_not; exact rfl; exact rfl; exact rfl) | (apply e_eql; exact rfl; exact rfl; exact rfl; exact rfl) | (apply e_ld1p; exact rfl; exact rfl; exact (ty rfl); exact rfl; exact rfl; exact (by first | rfl | assumption | ((try simp only [Nat.zero_add]); refine List.getElem?_set_self ?_; (try simp only [List.length_set]); assumption)); exact rfl; exact rfl))
    | (show DE _ _ _ _ _ _ _ _ _ _ _ _; (first | (apply dr_nil; exact trivial) | (apply e_callU; exact rfl; exact rfl; exact rfl; rotate_left; exact hE _; exact rfl; rotate_right; focus ((repeat' (first | exact FzL.nil | exact (by assumption : FzC _) _ | refine FzL.cons ?_ ?_ | exact Fz.of rfl | exact Fz.nil | exact Fz.emp | (apply Fz.fnC; assumption) | (apply Fz.sl2; exact rfl; exact (by first | omega | (simp; done) | (simp; omega)); first | exact rfl | exact dt_full (by first | omega | (simp; done) | (simp; omega)) | assumption) | apply Fz.agg | (apply Fz.ptrL; exact rfl; first | exact rfl | assumption) | apply Fz.fnL)); done))); (try simp only [put, rowsOf, plR, List.all_cons, selE, ovr, setH, del, cellsA, splice, isV, List.nil_append, List.cons_append, List.map_cons, List.map_nil, List.length_cons, List.length_nil, List.set_cons_zero, List.set_cons_succ, List.take_succ_cons, List.take_zero, List.take_nil, List.drop_succ_cons, List.drop_zero, List.drop_nil, List.append_nil, List.all_cons, List.all_nil, Bool.and_true, Bool.true_and, Bool.and_false, Bool.false_and, Nat.reduceAdd, Nat.zero_add, Nat.add_zero, Nat.reduceEqDiff, if_true, if_false, reduceIte]))
    | (show AW _ _ _ _ _ _ _ _; first | refine aw_region ?_ | (refine aw_seqk ?_; intro K hK) | refine aw_block ?_ | (apply aw_cond_t; exact rfl; exact rfl) | (apply aw_cond_f; exact rfl; exact rfl) | (apply aw_cond_t; exact rfl; exact (by assumption)) | refine aw_ret ?_ | refine aw_skip ?_ | refine aw_drawE (id := 6) [0, 1, 3, 7, 0, 16, 48, 112, 0, 511, 1023] [0, 0, 0, 1, 0, 0, 0, 1, 0, 1, 0] mixed (by kernel_rfl) ?_ | refine aw_drawE (id := 7) [0, 1, 3, 7, 0, 16, 48, 112, 255] [0, 0, 0, 1, 0, 0, 0, 1, 0] mixed (by kernel_rfl) ?_)
    | refine thn_n ?_
    | (refine hK _ _ _ ?_; clear hK K)
    | refine thn_r ?_
    | refine inb_r ?_)); all_goals (repeat (clear hK K)))
            all_goals exact finc id (.r1 _ _ (.tmp _ _ rfl)) rfl (fun z hz => rfl) ⟨(by rw [show bu - max ((0 : Int) - 1) 0 = bu - 0 by omega]; rfl), rfl, trivial⟩ rfl
          · rw [if_neg c3] at hg
            have d4 : (bu - b2 == bu) = false := by simp only [beq_eq_false_iff_ne, ne_eq]; omega
            have hwn : bu - max (b2 - 1) 0 = IntKind.i64.wrap (bu - b2 + 1) := by rw [IntWalk.i64_in _ (by omega)]; omega
            have ef1 : decide (b2 - 1 < 0) = false := by simpa using c3
            have hmx : max used (IntKind.i64.wrap ((x : Int) + 1)) = max used ((x : Int) + 1) := by rw [hw2]
            have hb2 : (bf.take len ++ [(x : Int)]).map inL = (bf.map inL).take len ++ [[.v (.int .i64 (x : Int))]] := by rw [List.map_append, List.map_take]; rfl
            have hii := ih (max used (IntKind.i64.wrap ((x : Int) + 1))) (b2 - 1, bf.take len ++ [(x : Int)]) (by omega) hN (by rw [hmx]; omega) (by rw [hmx, hlen1]; omega) (by dsimp only; omega) (by dsimp only; omega) (by rw [hlen1]; simp [htl]) (fun h => by simp [htl]; omega) 0 4 (by decide)
            have hkk := hkp (max used (IntKind.i64.wrap ((x : Int) + 1))) (b2 - 1, bf.take len ++ [(x : Int)]) (by omega) (by dsimp only; omega) (by rw [hlen1]; simp [htl]) (fun h => by simp [htl]; omega)
            rw [hlen1] at hii hkk
            dsimp only at hii
            rw [hb2] at hii
            have hMx := l00Max_ro used (IntKind.i64.wrap ((x : Int) + 1))
            have hqq : ext ls m r (max used (IntKind.i64.wrap ((x : Int) + 1))) (b2 - 1, bf.take len ++ [(x : Int)]) = ext ls m r (max used ((x : Int) + 1)) (b2 - 1, bf.take len ++ [(x : Int)]) := by rw [hmx]
            rw [← hqq] at hg
            generalize ext ls m r (max used (IntKind.i64.wrap ((x : Int) + 1))) (b2 - 1, bf.take len ++ [(x : Int)]) = q at *
            generalize max used (IntKind.i64.wrap ((x : Int) + 1)) = mxu at *
            obtain ⟨qo, qb, qf⟩ := q
            have kl := hkk.le
            have kb := hkk.bud
            have klo := hkk.lo
            dsimp only at hg hii kl kb klo
            have hqm : (qf.map inL).length = qf.length := List.length_map _
            unfold fdR at hii
            rw [hwn, ef1] at hii
            cases qo with
            | true =>
              rw [if_pos rfl] at hg
              rw [if_pos rfl] at hii
              subst hg
              ((repeat' (first
    | (show SQ _ _ _ _ _ _ _ _; first | apply sq_nil | (apply q_move; exact rfl; exact rfl) | (apply q_assign; exact rfl; exact rfl) | (apply q_pick_t; exact rfl; exact rfl; exact rfl; exact (by first | assumption | exact rfl)) | (apply q_fieldAddr; exact rfl; exact rfl; exact (ty rfl); exact rfl; exact rfl; exact rfl; exact rfl) | (apply q_nilc; exact rfl; exact rfl; exact rfl) | (apply q_lenl; exact rfl; exact rfl; exact (ty rfl); exact rfl) | (apply q_add; exact rfl; exact rfl; exact rfl) | (apply q_lss; exact rfl; exact rfl; exact rfl) | (apply q_leq; exact rfl; exact rfl; exact rfl) | (apply q_ld1p; exact rfl; exact rfl; exact (ty rfl); exact rfl; exact rfl; exact (by first | rfl | assumption | ((try simp only [Nat.zero_add]); refine List.getElem?_set_self ?_; (try simp only [List.length_set]); assumption)); exact rfl) | (apply q_g; exact rfl; exact rfl; exact rfl; exact (by assumption)))
    | (show SQ _ _ _ _ _ _ _ _; (first | (apply q_store; exact rfl; exact rfl; exact (ty rfl); exact rfl; exact (by first | rfl | assumption | ((try simp only [Nat.zero_add]); refine List.getElem?_set_self ?_; (try simp only [List.length_set]); assumption)); exact rfl; exact rfl; exact rfl) | (apply q_buildn; exact rfl; exact (ty rfl); exact rfl; exact rfl; exact rfl; exact rfl; exact rfl; exact rfl; exact rfl) | (apply q_apo_s; exact rfl; exact rfl; exact rfl; exact (ty rfl); exact rfl; exact rfl; exact (by first | omega | (simp; done) | (simp; omega)); exact (by first | exact List.take_of_length_le (by first | omega | (simp; done) | (simp; omega)) | rfl); exact (ty rfl); exact rfl; exact rfl; exact (by first | omega | (simp; done) | (simp; omega)); exact (by first | exact dt_full (by first | omega | (simp; done) | (simp; omega)) | assumption | rfl); exact rfl; exact (by first | omega | (simp; done) | (simp; omega)); exact (by first | omega | (simp; done) | (simp; omega)); exact (by first | assumption | exact rfl)) | (apply q_callU; exact rfl; exact rfl; exact rfl; exact FzL.of rfl; exact hMx _) | (apply q_callC; exact rfl; exact rfl; exact rfl; exact hii _; (focus ((repeat (first | exact trivial | refine ⟨by first | exact rfl | assumption, ?_⟩)); done)); skip)); (try simp only [put, rowsOf, plR, List.all_cons, selE, ovr, setH, del, cellsA, splice, isV, List.nil_append, List.cons_append, List.map_cons, List.map_nil, List.length_cons, List.length_nil, List.set_cons_zero, List.set_cons_succ, List.take_succ_cons, List.take_zero, List.take_nil, List.drop_succ_cons, List.drop_zero, List.drop_nil, List.append_nil, List.all_cons, List.all_nil, Bool.and_true, Bool.true_and, Bool.and_false, Bool.false_and, Nat.reduceAdd, Nat.zero_add, Nat.add_zero, Nat.reduceEqDiff, if_true, if_false, reduceIte]))
    | (show DE _ _ _ _ _ _ _ _ _ _ _ _; first | (apply e_move; exact rfl; exact rfl; exact rfl) | (apply e_fieldAddr; exact rfl; exact rfl; exact (ty rfl); exact rfl; exact rfl; exact rfl; exact rfl; exact rfl) | (apply e_nilc; exact rfl; exact rfl; exact rfl; exact rfl) | (apply e_not; exact rfl; exact rfl; exact rfl) | (apply e_eql; exact rfl; exact rfl; exact rfl; exact rfl) | (apply e_ld1p; exact rfl; exact rfl; exact (ty rfl); exact rfl; exact rfl; exact (by first | rfl | assumption | ((try simp only [Nat.zero_add]); refine List.getElem?_set_self ?_; (try simp only [List.length_set]); assumption)); exact rfl; exact rfl))
    | (show DE _ _ _ _ _ _ _ _ _ _ _ _; (first | (apply dr_nil; exact trivial) | (apply e_callU; exact rfl; exact rfl; exact rfl; rotate_left; exact hE _; exact rfl; rotate_right; focus ((repeat' (first | exact FzL.nil | exact (by assumption : FzC _) _ | refine FzL.cons ?_ ?_ | exact Fz.of rfl | exact Fz.nil | exact Fz.emp | (apply Fz.fnC; assumption) | (apply Fz.sl2; exact rfl; exact (by first | omega | (simp; done) | (simp; omega)); first | exact rfl | exact dt_full (by first | omega | (simp; done) | (simp; omega)) | assumption) | apply Fz.agg | (apply Fz.ptrL; exact rfl; first | exact rfl | assumption) | apply Fz.fnL)); done))); (try simp only [put, rowsOf, plR, List.all_cons, selE, ovr, setH, del, cellsA, splice, isV, List.nil_append, List.cons_append, List.map_cons, List.map_nil, List.length_cons, List.length_nil, List.set_cons_zero, List.set_cons_succ, List.take_succ_cons, List.take_zero, List.take_nil, List.drop_succ_cons, List.drop_zero, List.drop_nil, List.append_nil, List.all_cons, List.all_nil, Bool.and_true, Bool.true_and, Bool.and_false, Bool.false_and, Nat.reduceAdd, Nat.zero_add, Nat.add_zero, Nat.reduceEqDiff, if_true, if_false, reduceIte]))
    | (show AW _ _ _ _ _ _ _ _; first | refine aw_region ?_ | (refine aw_seqk ?_; intro K hK) | refine aw_block ?_ | (apply aw_cond_t; exact rfl; exact rfl) | (apply aw_cond_f; exact rfl; exact rfl) | (apply aw_cond_t; exact rfl; exact (by assumption)) | (apply aw_cond_f; exact rfl; exact (by assumption)) | refine aw_ret ?_ | refine aw_skip ?_ | refine aw_drawE (id := 6) [0, 1, 3, 7, 0, 16, 48, 112, 0, 511, 1023] [0, 0, 0, 1, 0, 0, 0, 1, 0, 1, 0] mixed (by kernel_rfl) ?_ | refine aw_drawE (id := 7) [0, 1, 3, 7, 0, 16, 48, 112, 255] [0, 0, 0, 1, 0, 0, 0, 1, 0] mixed (by kernel_rfl) ?_)
    | refine thn_n ?_
    | (refine hK _ _ _ ?_; clear hK K)
    | refine thn_r ?_
    | refine inb_r ?_)); all_goals (repeat (clear hK K)))
              all_goals exact finc (mv 2 5) (.r1 _ _ (.tmp _ _ rfl)) rfl (fun z hz => by simp at hz; simp [mv]; omega) ⟨rfl, rfl, trivial⟩ rfl
            | false =>
              rw [if_neg (by simp)] at hg
              rw [if_neg (by simp)] at hii
              by_cases c4 : qb < 0
              · rw [if_pos c4] at hg
                obtain rfl : qb = -1 := by omega
                ((repeat' (first
    | (show SQ _ _ _ _ _ _ _ _; first | apply sq_nil | (apply q_move; exact rfl; exact rfl) | (apply q_assign; exact rfl; exact rfl) | (apply q_pick_t; exact rfl; exact rfl; exact rfl; exact (by first | assumption | exact rfl)) | (apply q_fieldAddr; exact rfl; exact rfl; exact (ty rfl); exact rfl; exact rfl; exact rfl; exact rfl) | (apply q_nilc; exact rfl; exact rfl; exact rfl) | (apply q_lenl; exact rfl; exact rfl; exact (ty rfl); exact rfl) | (apply q_add; exact rfl; exact rfl; exact rfl) | (apply q_lss; exact rfl; exact rfl; exact rfl) | (apply q_leq; exact rfl; exact rfl; exact rfl) | (apply q_ld1p; exact rfl; exact rfl; exact (ty rfl); exact rfl; exact rfl; exact (by first | rfl | assumption | ((try simp only [Nat.zero_add]); refine List.getElem?_set_self ?_; (try simp only [List.length_set]); assumption)); exact rfl) | (apply q_ssl_h; exact rfl; exact rfl; exact rfl; exact (ty rfl); exact rfl; exact rfl; exact (by first | omega | (simp; done) | (simp; omega)); exact (by first | omega | (simp; done) | (simp; omega)); exact (by first | omega | (simp; done) | (simp; omega))) | (apply q_g; exact rfl; exact rfl; exact rfl; exact (by assumption)))
    | (show SQ _ _ _ _ _ _ _ _; (first | (apply q_store; exact rfl; exact rfl; exact (ty rfl); exact rfl; exact (by first | rfl | assumption | ((try simp only [Nat.zero_add]); refine List.getElem?_set_self ?_; (try simp only [List.length_set]); assumption)); exact rfl; exact rfl; exact rfl) | (apply q_buildn; exact rfl; exact (ty rfl); exact rfl; exact rfl; exact rfl; exact rfl; exact rfl; exact rfl; exact rfl) | (apply q_apo_s; exact rfl; exact rfl; exact rfl; exact (ty rfl); exact rfl; exact rfl; exact (by first | omega | (simp; done) | (simp; omega)); exact (by first | exact List.take_of_length_le (by first | omega | (simp; done) | (simp; omega)) | rfl); exact (ty rfl); exact rfl; exact rfl; exact (by first | omega | (simp; done) | (simp; omega)); exact (by first | exact dt_full (by first | omega | (simp; done) | (simp; omega)) | assumption | rfl); exact rfl; exact (by first | omega | (simp; done) | (simp; omega)); exact (by first | omega | (simp; done) | (simp; omega)); exact (by first | assumption | exact rfl)) | (apply q_callU; exact rfl; exact rfl; exact rfl; exact FzL.of rfl; exact hMx _) | (apply q_callC; exact rfl; exact rfl; exact rfl; exact hii _; (focus ((repeat (first | exact trivial | refine ⟨by first | exact rfl | assumption, ?_⟩)); done)); skip)); (try simp only [put, rowsOf, plR, List.all_cons, selE, ovr, setH, del, cellsA, splice, isV, List.nil_append, List.cons_append, List.map_cons, List.map_nil, List.length_cons, List.length_nil, List.set_cons_zero, List.set_cons_succ, List.take_succ_cons, List.take_zero, List.take_nil, List.drop_succ_cons, List.drop_zero, List.drop_nil, List.append_nil, List.all_cons, List.all_nil, Bool.and_true, Bool.true_and, Bool.and_false, Bool.false_and, Nat.reduceAdd, Nat.zero_add, Nat.add_zero, Nat.reduceEqDiff, if_true, if_false, reduceIte]))
    | (show DE _ _ _ _ _ _ _ _ _ _ _ _; first | (apply e_move; exact rfl; exact rfl; exact rfl) | (apply e_fieldAddr; exact rfl; exact rfl; exact (ty rfl); exact rfl; exact rfl; exact rfl; exact rfl; exact rfl) | (apply e_nilc; exact rfl; exact rfl; exact rfl; exact rfl) | (apply e_not; exact rfl; exact rfl; exact rfl) | (apply e_eql; exact rfl; exact rfl; exact rfl; exact rfl) | (apply e_ld1p; exact rfl; exact rfl; exact (ty rfl); exact rfl; exact rfl; exact (by first | rfl | assumption | ((try simp only [Nat.zero_add]); refine List.getElem?_set_self ?_; (try simp only [List.length_set]); assumption)); exact rfl; exact rfl))
    | (show DE _ _ _ _ _ _ _ _ _ _ _ _; (first | (apply dr_nil; exact trivial) | (apply e_callU; exact rfl; exact rfl; exact rfl; rotate_left; exact hE _; exact rfl; rotate_right; focus ((repeat' (first | exact FzL.nil | exact (by assumption : FzC _) _ | refine FzL.cons ?_ ?_ | exact Fz.of rfl | exact Fz.nil | exact Fz.emp | (apply Fz.fnC; assumption) | (apply Fz.sl2; exact rfl; exact (by first | omega | (simp; done) | (simp; omega)); first | exact rfl | exact dt_full (by first | omega | (simp; done) | (simp; omega)) | assumption) | apply Fz.agg | (apply Fz.ptrL; exact rfl; first | exact rfl | assumption) | apply Fz.fnL)); done))); (try simp only [put, rowsOf, plR, List.all_cons, selE, ovr, setH, del, cellsA, splice, isV, List.nil_append, List.cons_append, List.map_cons, List.map_nil, List.length_cons, List.length_nil, List.set_cons_zero, List.set_cons_succ, List.take_succ_cons, List.take_zero, List.take_nil, List.drop_succ_cons, List.drop_zero, List.drop_nil, List.append_nil, List.all_cons, List.all_nil, Bool.and_true, Bool.true_and, Bool.and_false, Bool.false_and, Nat.reduceAdd, Nat.zero_add, Nat.add_zero, Nat.reduceEqDiff, if_true, if_false, reduceIte]))
    | (show AW _ _ _ _ _ _ _ _; first | refine aw_region ?_ | (refine aw_seqk ?_; intro K hK) | refine aw_block ?_ | (apply aw_cond_f; exact rfl; exact rfl) | (apply aw_cond_t; exact rfl; exact (by assumption)) | (apply aw_cond_f; exact rfl; exact (by assumption)) | refine aw_skip ?_ | refine aw_drawE (id := 6) [0, 1, 3, 7, 0, 16, 48, 112, 0, 511, 1023] [0, 0, 0, 1, 0, 0, 0, 1, 0, 1, 0] mixed (by kernel_rfl) ?_ | refine aw_drawE (id := 7) [0, 1, 3, 7, 0, 16, 48, 112, 255] [0, 0, 0, 1, 0, 0, 0, 1, 0] mixed (by kernel_rfl) ?_)
    | refine thn_n ?_
    | (refine hK _ _ _ ?_; clear hK K)
    | refine inb_n ?_)); all_goals (repeat (clear hK K)))
                all_goals (try simp only [Int.toNat_natCast])
                all_goals (refine ⟨(x + 1, (-1, qf)), mv 2 5, ⟨c1, by dsimp only; omega, by dsimp only; omega, by dsimp only; omega, .inr ⟨rfl, hg.symm⟩⟩, by dsimp only; omega, ?_⟩; (try dsimp only); rw [← hw]; exact ⟨by (repeat (refine ⟨by first | exact lk_i rfl rfl | exact lk_r rfl rfl rfl, ?_⟩)); exact trivial, by (repeat (refine ⟨by first | exact ⟨rfl, rfl, rfl⟩, ?_⟩)); exact trivial, by rfl, by (intro i hi; (try dsimp only); refine ⟨?_, ?_⟩ <;> first | rfl | omega | (simp [mv]; omega))⟩)
              · rw [if_neg c4] at hg
                ((repeat' (first
    | (show SQ _ _ _ _ _ _ _ _; first | apply sq_nil | (apply q_move; exact rfl; exact rfl) | (apply q_assign; exact rfl; exact rfl) | (apply q_pick_t; exact rfl; exact rfl; exact rfl; exact (by first | assumption | exact rfl)) | (apply q_fieldAddr; exact rfl; exact rfl; exact (ty rfl); exact rfl; exact rfl; exact rfl; exact rfl) | (apply q_nilc; exact rfl; exact rfl; exact rfl) | (apply q_lenl; exact rfl; exact rfl; exact (ty rfl); exact rfl) | (apply q_add; exact rfl; exact rfl; exact rfl) | (apply q_lss; exact rfl; exact rfl; exact rfl) | (apply q_leq; exact rfl; exact rfl; exact rfl) | (apply q_ld1p; exact rfl; exact rfl; exact (ty rfl); exact rfl; exact rfl; exact (by first | rfl | assumption | ((try simp only [Nat.zero_add]); refine List.getElem?_set_self ?_; (try simp only [List.length_set]); assumption)); exact rfl) | (apply q_ssl_h; exact rfl; exact rfl; exact rfl; exact (ty rfl); exact rfl; exact rfl; exact (by first | omega | (simp; done) | (simp; omega)); exact (by first | omega | (simp; done) | (simp; omega)); exact (by first | omega | (simp; done) | (simp; omega))) | (apply q_g; exact rfl; exact rfl; exact rfl; exact (by assumption)))
    | (show SQ _ _ _ _ _ _ _ _; (first | (apply q_store; exact rfl; exact rfl; exact (ty rfl); exact rfl; exact (by first | rfl | assumption | ((try simp only [Nat.zero_add]); refine List.getElem?_set_self ?_; (try simp only [List.length_set]); assumption)); exact rfl; exact rfl; exact rfl) | (apply q_buildn; exact rfl; exact (ty rfl); exact rfl; exact rfl; exact rfl; exact rfl; exact rfl; exact rfl; exact rfl) | (apply q_apo_s; exact rfl; exact rfl; exact rfl; exact (ty rfl); exact rfl; exact rfl; exact (by first | omega | (simp; done) | (simp; omega)); exact (by first | exact List.take_of_length_le (by first | omega | (simp; done) | (simp; omega)) | rfl); exact (ty rfl); exact rfl; exact rfl; exact (by first | omega | (simp; done) | (simp; omega)); exact (by first | exact dt_full (by first | omega | (simp; done) | (simp; omega)) | assumption | rfl); exact rfl; exact (by first | omega | (simp; done) | (simp; omega)); exact (by first | omega | (simp; done) | (simp; omega)); exact (by first | assumption | exact rfl)) | (apply q_callU; exact rfl; exact rfl; exact rfl; exact FzL.of rfl; exact hMx _) | (apply q_callC; exact rfl; exact rfl; exact rfl; exact hii _; (focus ((repeat (first | exact trivial | refine ⟨by first | exact rfl | assumption, ?_⟩)); done)); skip)); (try simp only [put, rowsOf, plR, List.all_cons, selE, ovr, setH, del, cellsA, splice, isV, List.nil_append, List.cons_append, List.map_cons, List.map_nil, List.length_cons, List.length_nil, List.set_cons_zero, List.set_cons_succ, List.take_succ_cons, List.take_zero, List.take_nil, List.drop_succ_cons, List.drop_zero, List.drop_nil, List.append_nil, List.all_cons, List.all_nil, Bool.and_true, Bool.true_and, Bool.and_false, Bool.false_and, Nat.reduceAdd, Nat.zero_add, Nat.add_zero, Nat.reduceEqDiff, if_true, if_false, reduceIte]))
    | (show DE _ _ _ _ _ _ _ _ _ _ _ _; first | (apply e_move; exact rfl; exact rfl; exact rfl) | (apply e_fieldAddr; exact rfl; exact rfl; exact (ty rfl); exact rfl; exact rfl; exact rfl; exact rfl; exact rfl) | (apply e_nilc; exact rfl; exact rfl; exact rfl; exact rfl) | (apply e_not; exact rfl; exact rfl; exact rfl) | (apply e_eql; exact rfl; exact rfl; exact rfl; exact rfl) | (apply e_ld1p; exact rfl; exact rfl; exact (ty rfl); exact rfl; exact rfl; exact (by first | rfl | assumption | ((try simp only [Nat.zero_add]); refine List.getElem?_set_self ?_; (try simp only [List.length_set]); assumption)); exact rfl; exact rfl))
    | (show DE _ _ _ _ _ _ _ _ _ _ _ _; (first | (apply dr_nil; exact trivial) | (apply e_callU; exact rfl; exact rfl; exact rfl; rotate_left; exact hE _; exact rfl; rotate_right; focus ((repeat' (first | exact FzL.nil | exact (by assumption : FzC _) _ | refine FzL.cons ?_ ?_ | exact Fz.of rfl | exact Fz.nil | exact Fz.emp | (apply Fz.fnC; assumption) | (apply Fz.sl2; exact rfl; exact (by first | omega | (simp; done) | (simp; omega)); first | exact rfl | exact dt_full (by first | omega | (simp; done) | (simp; omega)) | assumption) | apply Fz.agg | (apply Fz.ptrL; exact rfl; first | exact rfl | assumption) | apply Fz.fnL)); done))); (try simp only [put, rowsOf, plR, List.all_cons, selE, ovr, setH, del, cellsA, splice, isV, List.nil_append, List.cons_append, List.map_cons, List.map_nil, List.length_cons, List.length_nil, List.set_cons_zero, List.set_cons_succ, List.take_succ_cons, List.take_zero, List.take_nil, List.drop_succ_cons, List.drop_zero, List.drop_nil, List.append_nil, List.all_cons, List.all_nil, Bool.and_true, Bool.true_and, Bool.and_false, Bool.false_and, Nat.reduceAdd, Nat.zero_add, Nat.add_zero, Nat.reduceEqDiff, if_true, if_false, reduceIte]))
    | (show AW _ _ _ _ _ _ _ _; first | refine aw_region ?_ | (refine aw_seqk ?_; intro K hK) | refine aw_block ?_ | (apply aw_cond_f; exact rfl; exact rfl) | (apply aw_cond_t; exact rfl; exact (by assumption)) | (apply aw_cond_f; exact rfl; exact (by assumption)) | refine aw_skip ?_ | refine aw_drawE (id := 6) [0, 1, 3, 7, 0, 16, 48, 112, 0, 511, 1023] [0, 0, 0, 1, 0, 0, 0, 1, 0, 1, 0] mixed (by kernel_rfl) ?_ | refine aw_drawE (id := 7) [0, 1, 3, 7, 0, 16, 48, 112, 255] [0, 0, 0, 1, 0, 0, 0, 1, 0] mixed (by kernel_rfl) ?_)
    | refine thn_n ?_
    | (refine hK _ _ _ ?_; clear hK K)
    | refine inb_n ?_)); all_goals (repeat (clear hK K)))
                all_goals (try simp only [Int.toNat_natCast])
                all_goals (refine ⟨(x + 1, (qb, qf)), mv 2 5, ⟨c1, by dsimp only; omega, by dsimp only; omega, by dsimp only; omega, .inl ⟨by dsimp only; omega, by rw [hj2]; exact hg⟩⟩, by dsimp only; omega, ?_⟩; (try dsimp only); rw [← hw]; exact ⟨by (repeat (refine ⟨by first | exact lk_i rfl rfl | exact lk_r rfl rfl rfl, ?_⟩)); exact trivial, by (repeat (refine ⟨by first | exact ⟨rfl, rfl, rfl⟩, ?_⟩)); exact trivial, by rfl, by (intro i hi; (try dsimp only); refine ⟨?_, ?_⟩ <;> first | rfl | omega | (simp [mv]; omega))⟩)
      · have en : bu - max (-1 : Int) 0 = bu := by omega
        have ef : decide ((-1 : Int) < 0) = true := rfl
        dsimp only
        rw [en, ef]
        cases c2 : earB ls (bf.take len) (x : Int) with
        | true =>
          rw [c2] at hE
          have d3 : (!!true) = true := rfl
          ((repeat' (first
    | (show SQ _ _ _ _ _ _ _ _; first | apply sq_nil | (apply q_move; exact rfl; exact rfl) | (apply q_assign; exact rfl; exact rfl) | (apply q_pick_t; exact rfl; exact rfl; exact rfl; exact (by first | assumption | exact rfl)) | (apply q_fieldAddr; exact rfl; exact rfl; exact (ty rfl); exact rfl; exact rfl; exact rfl; exact rfl) | (apply q_nilc; exact rfl; exact rfl; exact rfl) | (apply q_add; exact rfl; exact rfl; exact rfl) | (apply q_lss; exact rfl; exact rfl; exact rfl) | (apply q_leq; exact rfl; exact rfl; exact rfl) | (apply q_ld1p; exact rfl; exact rfl; exact (ty rfl); exact rfl; exact rfl; exact (by first | rfl | assumption | ((try simp only [Nat.zero_add]); refine List.getElem?_set_self ?_; (try simp only [List.length_set]); assumption)); exact rfl) | (apply q_g; exact rfl; exact rfl; exact rfl; exact (by assumption)))
    | (show DE _ _ _ _ _ _ _ _ _ _ _ _; first | (apply e_move; exact rfl; exact rfl; exact rfl) | (apply e_fieldAddr; exact rfl; exact rfl; exact (ty rfl); exact rfl; exact rfl; exact rfl; exact rfl; exact rfl) | (apply e_nilc; exact rfl; exact rfl; exact rfl; exact rfl) | (apply e_not; exact rfl; exact rfl; exact rfl) | (apply e_ld1p; exact rfl; exact rfl; exact (ty rfl); exact rfl; exact rfl; exact (by first | rfl | assumption | ((try simp only [Nat.zero_add]); refine List.getElem?_set_self ?_; (try simp only [List.length_set]); assumption)); exact rfl; exact rfl))
    | (show DE _ _ _ _ _ _ _ _ _ _ _ _; (first | (apply dr_nil; exact trivial) | (apply e_callU; exact rfl; exact rfl; exact rfl; rotate_left; exact hE _; exact rfl; rotate_right; focus ((repeat' (first | exact FzL.nil | exact (by assumption : FzC _) _ | refine FzL.cons ?_ ?_ | exact Fz.of rfl | exact Fz.nil | exact Fz.emp | (apply Fz.fnC; assumption) | (apply Fz.sl2; exact rfl; exact (by first | omega | (simp; done) | (simp; omega)); first | exact rfl | exact dt_full (by first | omega | (simp; done) | (simp; omega)) | assumption) | apply Fz.agg | (apply Fz.ptrL; exact rfl; first | exact rfl | assumption) | apply Fz.fnL)); done))); (try simp only [put, rowsOf, plR, List.all_cons, selE, ovr, setH, del, cellsA, splice, isV, List.nil_append, List.cons_append, List.map_cons, List.map_nil, List.length_cons, List.length_nil, List.set_cons_zero, List.set_cons_succ, List.take_succ_cons, List.take_zero, List.take_nil, List.drop_succ_cons, List.drop_zero, List.drop_nil, List.append_nil, List.all_cons, List.all_nil, Bool.and_true, Bool.true_and, Bool.and_false, Bool.false_and, Nat.reduceAdd, Nat.zero_add, Nat.add_zero, Nat.reduceEqDiff, if_true, if_false, reduceIte]))
    | (show AW _ _ _ _ _ _ _ _; first | refine aw_region ?_ | (refine aw_seqk ?_; intro K hK) | refine aw_block ?_ | (apply aw_cond_t; exact rfl; exact rfl) | (apply aw_cond_t; exact rfl; exact (by assumption)) | refine aw_exit ?_ | refine aw_skip ?_ | refine aw_drawE (id := 6) [0, 1, 3, 7, 0, 16, 48, 112, 0, 511, 1023] [0, 0, 0, 1, 0, 0, 0, 1, 0, 1, 0] mixed (by kernel_rfl) ?_)
    | refine thn_n ?_
    | (refine hK _ _ _ ?_; clear hK K)
    | refine thn_e ?_
    | refine inb_same ?_
    | (clear hK K; refine hK _ _ _ ?_; clear hK K))); all_goals (repeat (clear hK K)))
          all_goals (refine ⟨(x + 1, (-1, bf)), id, ⟨c1, t0, t1, tl, .inr ⟨rfl, hg⟩⟩, by dsimp only; omega, ?_⟩; (try dsimp only); rw [en, ef, ← hw]; exact ⟨by (repeat (refine ⟨by first | exact lk_i rfl rfl | exact lk_r rfl rfl rfl, ?_⟩)); exact trivial, by (repeat (refine ⟨by first | exact ⟨rfl, rfl, rfl⟩, ?_⟩)); exact trivial, by rfl, by (intro i hi; (try dsimp only); refine ⟨?_, ?_⟩ <;> first | rfl | omega | (simp at hi; omega) | (simp; omega))⟩)
        | false =>
          rw [c2] at hE
          have d4 : (bu == bu) = true := by simp
          subst hg
          ((repeat' (first
    | (show SQ _ _ _ _ _ _ _ _; first | apply sq_nil | (apply q_move; exact rfl; exact rfl) | (apply q_assign; exact rfl; exact rfl) | (apply q_pick_t; exact rfl; exact rfl; exact rfl; exact (by first | assumption | exact rfl)) | (apply q_fieldAddr; exact rfl; exact rfl; exact (ty rfl); exact rfl; exact rfl; exact rfl; exact rfl) | (apply q_nilc; exact rfl; exact rfl; exact rfl) | (apply q_lss; exact rfl; exact rfl; exact rfl) | (apply q_leq; exact rfl; exact rfl; exact rfl) | (apply q_ld1p; exact rfl; exact rfl; exact (ty rfl); exact rfl; exact rfl; exact (by first | rfl | assumption | ((try simp only [Nat.zero_add]); refine List.getElem?_set_self ?_; (try simp only [List.length_set]); assumption)); exact rfl) | (apply q_g; exact rfl; exact rfl; exact rfl; exact (by assumption)))
    | (show SQ _ _ _ _ _ _ _ _; (first | (apply q_store; exact rfl; exact rfl; exact (ty rfl); exact rfl; exact (by first | rfl | assumption | ((try simp only [Nat.zero_add]); refine List.getElem?_set_self ?_; (try simp only [List.length_set]); assumption)); exact rfl; exact rfl; exact rfl)); (try simp only [put, rowsOf, plR, List.all_cons, selE, ovr, setH, del, cellsA, splice, isV, List.nil_append, List.cons_append, List.map_cons, List.map_nil, List.length_cons, List.length_nil, List.set_cons_zero, List.set_cons_succ, List.take_succ_cons, List.take_zero, List.take_nil, List.drop_succ_cons, List.drop_zero, List.drop_nil, List.append_nil, List.all_cons, List.all_nil, Bool.and_true, Bool.true_and, Bool.and_false, Bool.false_and, Nat.reduceAdd, Nat.zero_add, Nat.add_zero, Nat.reduceEqDiff, if_true, if_false, reduceIte]))
    | (show DE _ _ _ _ _ _ _ _ _ _ _ _; first | (apply e_move; exact rfl; exact rfl; exact rfl) | (apply e_fieldAddr; exact rfl; exact rfl; exact (ty rfl); exact rfl; exact rfl; exact rfl; exact rfl; exact rfl) | (apply e_nilc; exact rfl; exact rfl; exact rfl; exact rfl) | (apply e_not; exact rfl; exact rfl; exact rfl) | (apply e_eql; exact rfl; exact rfl; exact rfl; exact rfl) | (apply e_ld1p; exact rfl; exact rfl; exact (ty rfl); exact rfl; exact rfl; exact (by first | rfl | assumption | ((try simp only [Nat.zero_add]); refine List.getElem?_set_self ?_; (try simp only [List.length_set]); assumption)); exact rfl; exact rfl))
    | (show DE _ _ _ _ _ _ _ _ _ _ _ _; (first | (apply dr_nil; exact trivial) | (apply e_callU; exact rfl; exact rfl; exact rfl; rotate_left; exact hE _; exact rfl; rotate_right; focus ((repeat' (first | exact FzL.nil | exact (by assumption : FzC _) _ | refine FzL.cons ?_ ?_ | exact Fz.of rfl | exact Fz.nil | exact Fz.emp | (apply Fz.fnC; assumption) | (apply Fz.sl2; exact rfl; exact (by first | omega | (simp; done) | (simp; omega)); first | exact rfl | exact dt_full (by first | omega | (simp; done) | (simp; omega)) | assumption) | apply Fz.agg | (apply Fz.ptrL; exact rfl; first | exact rfl | assumption) | apply Fz.fnL)); done))); (try simp only [put, rowsOf, plR, List.all_cons, selE, ovr, setH, del, cellsA, splice, isV, List.nil_append, List.cons_append, List.map_cons, List.map_nil, List.length_cons, List.length_nil, List.set_cons_zero, List.set_cons_succ, List.take_succ_cons, List.take_zero, List.take_nil, List.drop_succ_cons, List.drop_zero, List.drop_nil, List.append_nil, List.all_cons, List.all_nil, Bool.and_true, Bool.true_and, Bool.and_false, Bool.false_and, Nat.reduceAdd, Nat.zero_add, Nat.add_zero, Nat.reduceEqDiff, if_true, if_false, reduceIte]))
    | (show AW _ _ _ _ _ _ _ _; first | refine aw_region ?_ | (refine aw_seqk ?_; intro K hK) | refine aw_block ?_ | (apply aw_cond_t; exact rfl; exact rfl) | (apply aw_cond_f; exact rfl; exact rfl) | (apply aw_cond_t; exact rfl; exact (by assumption)) | refine aw_ret ?_ | refine aw_skip ?_ | refine aw_drawE (id := 6) [0, 1, 3, 7, 0, 16, 48, 112, 0, 511, 1023] [0, 0, 0, 1, 0, 0, 0, 1, 0, 1, 0] mixed (by kernel_rfl) ?_ | refine aw_drawE (id := 7) [0, 1, 3, 7, 0, 16, 48, 112, 255] [0, 0, 0, 1, 0, 0, 0, 1, 0] mixed (by kernel_rfl) ?_)
    | refine thn_n ?_
    | (refine hK _ _ _ ?_; clear hK K)
    | refine thn_r ?_
    | refine inb_r ?_)); all_goals (repeat (clear hK K)))
          all_goals exact finc id (.r1 _ _ (.tmp _ _ rfl)) rfl (fun z hz => rfl) ⟨(by rw [show bu - max (-1 : Int) 0 = bu by omega]; rfl), rfl, trivial⟩ rfl
    · have hq : (false, (b2, bf)) = Q := by
        rcases hg with ⟨_, hg⟩ | ⟨rfl, hg⟩
        · rw [show KK - x = 0 by omega, extG] at hg; exact hg
        · exact hg.symm
      subst hq
      dsimp only
      by_cases c5 : (x : Int) < m
      · have d1 : decide ((x : Int) < m) = true := by simpa using c5
        have d2 : decide ((x : Int) ≤ used) = false := by rw [decide_eq_false_iff_not]; omega
        ((repeat' (first
    | (show SQ _ _ _ _ _ _ _ _; first | apply sq_nil | (apply q_move; exact rfl; exact rfl) | (apply q_assign; exact rfl; exact rfl) | (apply q_pick_t; exact rfl; exact rfl; exact rfl; exact (by first | assumption | exact rfl)) | (apply q_fieldAddr; exact rfl; exact rfl; exact (ty rfl); exact rfl; exact rfl; exact rfl; exact rfl) | (apply q_nilc; exact rfl; exact rfl; exact rfl) | (apply q_lss; exact rfl; exact rfl; exact rfl) | (apply q_leq; exact rfl; exact rfl; exact rfl) | (apply q_ld1p; exact rfl; exact rfl; exact (ty rfl); exact rfl; exact rfl; exact (by first | rfl | assumption | ((try simp only [Nat.zero_add]); refine List.getElem?_set_self ?_; (try simp only [List.length_set]); assumption)); exact rfl) | (apply q_g; exact rfl; exact rfl; exact rfl; exact (by assumption)))
    | (show AW _ _ _ _ _ _ _ _; first | refine aw_region ?_ | (refine aw_seqk ?_; intro K hK) | (apply aw_cond_f; exact rfl; exact (by assumption)) | refine aw_ret ?_ | refine aw_exit ?_)
    | refine thn_n ?_
    | (refine hK _ _ _ ?_; clear hK K)
    | refine thn_e ?_
    | refine inb_same ?_
    | (clear hK K; refine hK _ _ _ ?_; clear hK K))); all_goals (repeat (clear hK K)))
        all_goals exact finc id (.r1 _ _ (.tmp _ _ rfl)) rfl (fun z hz => rfl) ⟨rfl, rfl, trivial⟩ rfl
      · have d1 : decide ((x : Int) < m) = false := by simpa using c5
        ((repeat' (first
    | (show SQ _ _ _ _ _ _ _ _; first | apply sq_nil | (apply q_move; exact rfl; exact rfl) | (apply q_assign; exact rfl; exact rfl) | (apply q_pick_f; exact rfl; exact rfl; exact rfl; exact (by first | assumption | exact rfl)) | (apply q_fieldAddr; exact rfl; exact rfl; exact (ty rfl); exact rfl; exact rfl; exact rfl; exact rfl) | (apply q_nilc; exact rfl; exact rfl; exact rfl) | (apply q_lss; exact rfl; exact rfl; exact rfl) | (apply q_ld1p; exact rfl; exact rfl; exact (ty rfl); exact rfl; exact rfl; exact (by first | rfl | assumption | ((try simp only [Nat.zero_add]); refine List.getElem?_set_self ?_; (try simp only [List.length_set]); assumption)); exact rfl) | (apply q_s; exact rfl; exact rfl; exact rfl; exact (by assumption); exact rfl))
    | (show AW _ _ _ _ _ _ _ _; first | refine aw_region ?_ | (refine aw_seqk ?_; intro K hK) | (apply aw_cond_f; exact rfl; exact rfl) | refine aw_ret ?_ | refine aw_exit ?_)
    | refine thn_n ?_
    | (refine hK _ _ _ ?_; clear hK K)
    | refine thn_e ?_
    | refine inb_same ?_
    | (clear hK K; refine hK _ _ _ ?_; clear hK K))); all_goals (repeat (clear hK K)))
        all_goals exact finc id (.r1 _ _ (.tmp _ _ rfl)) rfl (fun z hz => rfl) ⟨rfl, rfl, trivial⟩ rfl
end
end Go.Proofs.Yteknfaldpajlpaa.Nb

namespace Go.Proofs.Yteknfaldpajlpaa.Nb
open Go Go.RowKit Go.Proofs.Yteknfaldpajlpaa.Aw Go.Proofs.Yteknfaldpajlpaa.In Go.Proofs.Yteknfaldpajlpaa.Il
set_option linter.unusedSimpArgs false
set_option linter.unusedVariables false
set_option linter.unusedSectionVars false
theorem fz_ni {H : Hp} {k m : Nat} {ls : List (List Int)} (hl : Aw.look H k = some (niB k ls)) (hn : NstIn H (k + 1) (niT ls)) (hm : m = ls.length) : Fz H (.sl k 0 m) (.dsl 1 (nbL ls)) := by
  refine Fz.nst (ity := 2) (ty := 23) (Ls := ls.map fun l => l.map inL) ?_ ?_ (by rw [List.length_map]; exact hm) ?_
  · rw [hl]
    unfold niB nestB
    rw [List.map_map]
    have : (List.length ∘ fun l => List.map inL l) = List.length := by funext l; simp
    rw [this]
  · rw [List.map_map]; exact hn
  · rw [List.map_map]; rfl
theorem lkE_someE : ∀ (U : Hp) (i : Nat), lkE (someE U) i = (Aw.look U i).map some
  | [], i => rfl
  | (k, b) :: U, i => by
    show lkE ((k, some b) :: someE U) i = _
    rw [lkE_cons, look_cons]
    split
    · rfl
    · exact lkE_someE U i
theorem subE_of {H : Hp} : ∀ {Hi : Hp}, (∀ p ∈ Hi, Aw.look H p.1 = some p.2) → subE H Hi
  | [], _ => trivial
  | p :: Hi, h => ⟨h p List.mem_cons_self, subE_of fun q hq => h q (List.mem_cons_of_mem _ hq)⟩
theorem q_markN {P : Program} {N n d : Nat} {all : Array Oper} {l : List Oper} {G : Tp → Hp → Nat → Prop} {T : Tp} {H : Hp} {f : Operand} {xs : Array Operand} {ts : Array TypeId} {args : List AV} {v : AV} {g : FuncId} {ty : TypeId} {pos : String} {after : Array Edge} (b : Nat) (ls ms : List (List Int)) (H' : Hp)
    (hd : Nat.blt d N = true) (hf : evalA T f = some (.fn g [])) (ha : evalL T xs.toList = some args)
    (hrc : RC P g args ((b, niB b ls) :: nst (b + 1) (niT ls)) n v (someE ((b, niB b ls) :: nst (b + 1) (niT ms))) n)
    (hl : Aw.look H b = some (niB b ls)) (hn : NstIn H (b + 1) (niT ls))
    (hH : ∀ i c, Aw.look H' i = some c → Aw.look ((b, niB b ls) :: nst (b + 1) (niT ms)) i = some c ∨ (Aw.look ((b, niB b ls) :: nst (b + 1) (niT ms)) i = none ∧ Aw.look H i = some c))
    (h : SQ P N all l G ((d, v) :: T) H' n) : SQ P N all (⟨some d, .call { callee := .value f, args := xs, argTypes := ts }, ty, pos, after, none⟩ :: l) G T H n := by
  refine q_callC (n' := n) (dst := some d) hd hf ha (by rw [List.append_nil]; exact hrc) (subE_of fun p hp => ?_) (sq_sub (fun i c hc => ?_) h)
  · rcases List.mem_cons.1 hp with rfl | hp
    · exact hl
    · obtain ⟨j, h1, h2⟩ := nst_mem _ _ _ hp
      rw [h2]; exact hn j _ h1
  · rw [look_ovr, lkE_someE]
    rcases hH i c hc with h | ⟨h1, h2⟩
    · rw [h]; rfl
    · rw [h1]; exact h2
attribute [local irreducible] AW SQ Step RO RC DE
section
variable (ls : List (List Int)) (hS : NbS ls)
include hS
end
end Go.Proofs.Yteknfaldpajlpaa.Nb

namespace Go.Proofs.Yteknfaldpajlpaa.Nb
open Go Go.RowKit Go.Proofs.Yteknfaldpajlpaa.Aw Go.Proofs.Yteknfaldpajlpaa.In Go.Proofs.Yteknfaldpajlpaa.Il
set_option linter.unusedSimpArgs false
set_option linter.unusedVariables false
set_option linter.unusedSectionVars false
attribute [local irreducible] AW SQ Step RO RC DE Thn InB
theorem canon {H : Hp} {O : Hp} {b1 b2 : Nat} {L1 L2 : List Blk} (ho : subE H O) (h1 : NstIn H b1 L1) (h2 : NstIn H b2 L2) : ∀ i c, Aw.look (O ++ (nst b1 L1 ++ nst b2 L2)) i = some c → Aw.look H i = some c := by
  intro i c h
  have hm := look_mem h
  rcases List.mem_append.1 hm with hm | hm
  · clear h
    induction O with
    | nil => cases hm
    | cons p O ih =>
      obtain ⟨ha, hb⟩ := ho
      rcases List.mem_cons.1 hm with rfl | hm
      · exact ha
      · exact ih hb (List.mem_append_left _ hm) hm
  · rcases List.mem_append.1 hm with hm | hm
    · obtain ⟨j, g1, g2⟩ := nst_mem _ _ _ hm
      dsimp only at g1 g2
      rw [g2]; exact h1 j c g1
    · obtain ⟨j, g1, g2⟩ := nst_mem _ _ _ hm
      dsimp only at g1 g2
      rw [g2]; exact h2 j c g1
theorem canon1 {H : Hp} {O : Hp} {b1 : Nat} {L1 : List Blk} (ho : subE H O) (h1 : NstIn H b1 L1) : ∀ i c, Aw.look (O ++ nst b1 L1) i = some c → Aw.look H i = some c := by
  have := canon (b2 := 0) (L2 := []) ho h1 (fun j b h => by simp at h)
  rwa [nst, List.append_nil] at this
theorem NstIn.del {base i : Nat} {bs : List Blk} {H : Hp} (h : i < base ∨ base + bs.length ≤ i) (hn : NstIn H base bs) : NstIn (Aw.del H i) base bs := fun j c hc => by
  have := nlt hc
  rw [look_del_ne _ (by omega)]; exact hn j c hc
theorem look_skip {base i : Nat} {bs : List Blk} {H : Hp} (h : i < base ∨ base + bs.length ≤ i) : Aw.look (nst base bs ++ H) i = Aw.look H i := by
  rw [look_append, look_nst]
  split
  · rw [List.getElem?_eq_none (by omega)]; rfl
  · rfl
theorem nest_none {b i : Nat} {B : Blk} {bs : List Blk} (h : i < b ∨ b + bs.length < i) : Aw.look ((b, B) :: nst (b + 1) bs) i = none := by
  rw [look_cons, if_neg (by omega), look_nst]
  split
  · rw [List.getElem?_eq_none (by omega)]
  · rfl
end Go.Proofs.Yteknfaldpajlpaa.Nb

namespace Go.Proofs.Yteknfaldpajlpaa.Nb
open Go Go.RowKit Go.Proofs.Yteknfaldpajlpaa.Aw Go.Proofs.Yteknfaldpajlpaa.In Go.Proofs.Yteknfaldpajlpaa.Il
set_option linter.unusedSimpArgs false
set_option linter.unusedVariables false
set_option linter.unusedSectionVars false
def rn5 : Nat → Nat := fun z => if z = 0 then 5000 else 5001
theorem RO.nil3 {P : Program} {f : FuncId} {args : List AV} {k : Nat} {d e : Value} (ty : TypeId) (h : RO P f args k (.tup [.v (.slice none 0 0), .v d, .v e]) [] k) : RO P f args k (.tup [.sl k 0 0, .v d, .v e]) [(k, ⟨ty, 1, true, []⟩)] (k + 1) := by
  obtain ⟨h1, h2, h3, h4⟩ := h
  have hU : ∀ (i : Nat) (b : Blk), Aw.look [(k, (⟨ty, 1, true, []⟩ : Blk))] i = some b → i = k ∧ b = ⟨ty, 1, true, []⟩ := fun i b hb => by
    rw [look_cons] at hb
    split at hb
    · rename_i he; subst he; cases hb; exact ⟨rfl, rfl⟩
    · simp [look_nil] at hb
  refine ⟨h1, Nat.le_succ _, fun i b hb => by obtain ⟨rfl, _⟩ := hU i b hb; exact ⟨Nat.le_refl _, Nat.lt_succ_self _⟩, fun K w xs hk hv => (h4 K w xs hk hv).mono ?_⟩
  rintro e' w' ⟨r, m', he, hr⟩
  refine ⟨r, fun _ => ⟨0, 0, 0, true⟩, he, hr.below, ?_, (fun i _ _ hp => by cases hp), (fun i b hb => by obtain ⟨rfl, _⟩ := hU i b hb; exact ⟨Nat.le_refl _, Nat.lt_succ_self _⟩), (fun i b hb => ?_), (fun i j bi bj _ _ _ hp => by cases hp), (fun i b _ _ => by show (0 : Nat) ≠ 1; omega)⟩
  · have hv := hr.vr
    cases hv with
    | tup _ _ xs hl hv =>
      refine .tup _ _ xs hl fun j cv x hj hx => ?_
      match j, hj with
      | 0, hj =>
        cases hj
        have := hv 0 _ x rfl hx
        cases this
        exact .sl0 _ _ _ _ ⟨Nat.le_refl _, Nat.lt_succ_self _⟩
      | 1, hj =>
        cases hj
        have := hv 1 _ x rfl hx
        cases this
        exact .v _ _
      | 2, hj =>
        cases hj
        have := hv 2 _ x rfl hx
        cases this
        exact .v _ _
  · obtain ⟨rfl, rfl⟩ := hU i b hb; exact .inl ⟨rfl, rfl⟩
attribute [local irreducible] AW SQ Step RO RC DE Thn InB
theorem extG_res {nxt : Int → Int × List Int → Bool × (Int × List Int)} {ls : List (List Int)} {len : Nat} {used : Int} : ∀ (k c : Nat) (b : Int) (l l' : List Int), l.take len = l'.take len →
    (extG nxt ls len used k c (b, l)).1 = (extG nxt ls len used k c (b, l')).1 ∧ (extG nxt ls len used k c (b, l)).2.1 = (extG nxt ls len used k c (b, l')).2.1 ∧ ((extG nxt ls len used k c (b, l)).1 = true → extG nxt ls len used k c (b, l) = extG nxt ls len used k c (b, l'))
  | 0, c, b, l, l', h => ⟨rfl, rfl, fun h => by cases h⟩
  | k + 1, c, b, l, l', h => by
    unfold extG
    dsimp only
    rw [h]
    split
    · exact extG_res k (c + 1) b l l' h
    · split
      · exact ⟨rfl, rfl, fun h => by cases h⟩
      · split
        · exact ⟨rfl, rfl, fun _ => rfl⟩
        · split
          · exact ⟨rfl, rfl, fun _ => rfl⟩
          · exact ⟨rfl, rfl, fun _ => rfl⟩
theorem ext_res {ls : List (List Int)} {m b : Int} {l : List Int} (h : ls.length = 0 → l = []) : (ext ls m ls.length 0 (b, l)).1 = (ext ls m ls.length 0 (b, [])).1 ∧ (ext ls m ls.length 0 (b, l)).2.1 = (ext ls m ls.length 0 (b, [])).2.1 ∧ ((ext ls m ls.length 0 (b, l)).1 = true → ext ls m ls.length 0 (b, l) = ext ls m ls.length 0 (b, [])) := by
  generalize hn : ls.length = n at *
  cases n with
  | zero => rw [h rfl]; exact ⟨rfl, rfl, fun _ => rfl⟩
  | succ r =>
    rw [ext, ext]
    refine extG_res _ _ _ _ _ ?_
    rw [hn, Nat.sub_self]; rfl
def fewS (ls : List (List Int)) : Nat → Nat → Int → Nat × (Bool × (Int × List Int))
  | 0, m, b => (m, ext ls (m : Int) ls.length 0 (b, []))
  | k + 1, m, b => if (ext ls (m : Int) ls.length 0 (b, [])).1 then (m, ext ls (m : Int) ls.length 0 (b, [])) else if (ext ls (m : Int) ls.length 0 (b, [])).2.1 < 0 then (m, ext ls (m : Int) ls.length 0 (b, []))
    else fewS ls k (m + 1) (ext ls (m : Int) ls.length 0 (b, [])).2.1
theorem few_eq {ls : List (List Int)} : ∀ (k m : Nat) (b : Int) (l : List Int), (ls.length = 0 → l = []) → (fewF ls k m (b, l)).1 = (fewS ls k m b).1 ∧ (fewF ls k m (b, l)).2.1 = (fewS ls k m b).2.1 ∧ ((fewF ls k m (b, l)).2.1 = true → (fewF ls k m (b, l)).2.2.2 = (fewS ls k m b).2.2.2)
  | 0, m, b, l, h => by
    obtain ⟨g1, g2, g3⟩ := ext_res (m := (m : Int)) (b := b) h
    exact ⟨rfl, g1, fun h => by show (ext ls (m : Int) ls.length 0 (b, l)).2.2 = _; rw [g3 h]; rfl⟩
  | k + 1, m, b, l, h => by
    obtain ⟨g1, g2, g3⟩ := ext_res (m := (m : Int)) (b := b) h
    rw [fewF, fewS]
    rw [← g1, ← g2]
    split
    · rename_i h1
      exact ⟨rfl, g1, fun h => by show (ext ls (m : Int) ls.length 0 (b, l)).2.2 = _; rw [g3 h1]⟩
    · rename_i h1
      split
      · exact ⟨rfl, g1, fun h => absurd h h1⟩
      · have := few_eq k (m + 1) (ext ls (m : Int) ls.length 0 (b, l)).2.1 (ext ls (m : Int) ls.length 0 (b, l)).2.2 fun e => by
          exfalso; apply h1
          have : ∀ n, n = 0 → (ext ls (m : Int) n 0 (b, l)).1 = true := fun n hn => by subst hn; rfl
          exact this _ e
        exact this
theorem sq_frzT2 {P : Program} {N n : Nat} {T : Tp} {H : Hp} {all : Array Oper} {l : List Oper} {G : Tp → Hp → Nat → Prop} (t : Nat) {k0 m : Nat} {f : Nat → Nat → Bool} (H' : Hp) (ht : Aw.look T t = some (.sl k0 0 m)) (hl : Aw.look H k0 = some (tabB k0 m)) (hn : NstIn H (k0 + 1) (tabT m m f))
    (hH : ∀ i b, Aw.look H' i = some b → Aw.look H i = some b ∧ ¬ (k0 ≤ i ∧ i ≤ k0 + m)) (h : SQ P N all l G ((t, .dsl 1 (dT m f)) :: T) H' n) : SQ P N all l G T H n := by
  have e1 : ((List.range m).map fun a => tabR m (f a)).map List.length = List.replicate m m := by
    apply List.ext_getElem?
    intro x
    by_cases h : x < m <;> simp [h, tabR_len]
  refine sq_frzN (ity := 4) (ty := 106) (Ls := (List.range m).map fun a => tabR m (f a)) (rows := dT m f) (H' := H') (t := t) (k0 := k0) (len := m) ht ?_ ?_ (fun L hL => ?_) (by simp) (by rw [List.map_map]; rfl) (fun i b hb => ?_) h
  · rw [nestB, e1]; exact hl
  · rw [List.map_map]; exact hn
  · obtain ⟨a, _, rfl⟩ := List.mem_map.1 hL
    exact all_noOwn_map fun _ => rfl
  · rw [List.length_map, List.length_range]; exact hH i b hb
section
variable (ls : List (List Int)) (hS : NbS ls)
include hS
theorem Fewest_okR (bu : Int) (h : nbB ls = true) (h2 : inB bu 1 20000 = true) (hv : (fewF ls ls.length 0 (bu, [])).2.1 = true) (k : Nat) : RO Try.prog 22 [.dsl 1 (nbL ls), .v (.int .i64 bu)] k (.tup [.sl k 0 ls.length, .v (.int .i64 ((fewF ls ls.length 0 (bu, [])).1 : Int)), .v (.int .i64 0)]) [(k, ⟨2, 1, true, (fewF ls ls.length 0 (bu, [])).2.2.2.map inL⟩)] (k + 1) := by
  have hV := ValidNeighbours_ro ls hS
  have hB := budgetValid_ro ls hS bu
  have b1 : (!nbB ls) = false := by rw [h]; rfl
  have b2 : (!inB bu 1 20000) = false := by rw [h2]; rfl
  have hN := nbB_in h
  have hbu : 1 ≤ bu ∧ bu ≤ 20000 := by simpa [inB] using h2
  have hus := us_in ls ls.length hN
  generalize hQQ : fewF ls ls.length 0 (bu, []) = Q at *
  refine RO.ofm (.tup [.sl 0 0 ls.length, .v (.int .i64 (Q.1 : Int)), .v (.int .i64 0)]) ([(0, ⟨2, 1, true, Q.2.2.2.map inL⟩)]) 1 Try.func22 Try.ntmps22 rfl (goFn_of Try.func22 rfl (by kernel_rfl)) rfl rfl (by simp [renA, renL]) (by simp [shH, renB]) rfl ?_
  ((repeat' (first
    | (show SQ _ _ _ _ _ _ _ _; first | apply sq_nil | (apply q_move; exact rfl; exact rfl) | (apply q_assign; exact rfl; exact rfl) | (apply q_not; exact rfl; exact rfl) | (apply q_build; exact rfl; exact (ty rfl); exact rfl; exact rfl; exact rfl))
    | (show SQ _ _ _ _ _ _ _ _; (first | (apply q_alloc; exact rfl; exact (ty rfl); exact rfl; exact rfl) | (apply q_store; exact rfl; exact rfl; exact (ty rfl); exact rfl; exact (by first | rfl | assumption | ((try simp only [Nat.zero_add]); refine List.getElem?_set_self ?_; (try simp only [List.length_set]); assumption)); exact rfl; exact rfl; exact rfl) | (apply q_callU; exact rfl; exact rfl; exact rfl; exact FzL.of rfl; exact hV _) | (apply q_callU; exact rfl; exact rfl; exact rfl; exact FzL.of rfl; exact hB _)); (try simp only [put, rowsOf, plR, List.all_cons, selE, ovr, setH, del, cellsA, splice, isV, List.nil_append, List.cons_append, List.map_cons, List.map_nil, List.length_cons, List.length_nil, List.set_cons_zero, List.set_cons_succ, List.take_succ_cons, List.take_zero, List.take_nil, List.drop_succ_cons, List.drop_zero, List.drop_nil, List.append_nil, List.all_cons, List.all_nil, Bool.and_true, Bool.true_and, Bool.and_false, Bool.false_and, Nat.reduceAdd, Nat.zero_add, Nat.add_zero, Nat.reduceEqDiff, if_true, if_false, reduceIte]))
    | (show AW _ _ _ _ _ _ _ _; first | refine aw_region ?_ | (refine aw_seqk ?_; intro K hK) | refine aw_block ?_ | (apply aw_cond_f; exact rfl; exact (by assumption)) | refine aw_skip ?_)
    | refine thn_n ?_
    | (refine hK _ _ _ ?_; clear hK K)
    | refine inb_n ?_)); all_goals (repeat (clear hK K)))
  refine aw_nilB 0 0 2 2 1 rfl rfl rfl rfl rfl ?_
  refine aw_loop (ρ := id) (ι := Nat × (Int × List Int)) (fun s => ([(8, .v (.int .i64 (s.1 : Int))), (7, .ptr 0 0 0)],
      [(0, ⟨73, 3, false, [[.dsl 1 (nbL ls), .v (.int .i64 s.2.1), .sl 1 0 0]]⟩), (1, ⟨2, 1, true, s.2.2.map inL⟩)], 2))
    (fun s => s.1 ≤ ls.length ∧ 0 ≤ s.2.1 ∧ s.2.1 ≤ 20000 ∧ (ls.length = 0 → s.2.2.length = 0) ∧ fewF ls (ls.length - s.1) s.1 s.2 = Q) (fun s => ls.length - s.1) (0, (bu, [])) ⟨Nat.zero_le _, by dsimp only; omega, by dsimp only; omega, fun _ => rfl, hQQ⟩ ⟨by (repeat (refine ⟨by first | exact lk_i rfl rfl | exact lk_r rfl rfl rfl, ?_⟩)); exact trivial, by (repeat (refine ⟨by first | exact ⟨rfl, rfl, rfl⟩, ?_⟩)); exact trivial, by rfl, by exact pin_0⟩ ?_
  rintro ⟨m, st⟩ ⟨hm, s0, s1, h0, hg⟩
  dsimp only at hm s0 s1 h0 hg
  have hX := ext_rc ls hS (m : Int) (by omega) ls.length 0 st (Nat.le_refl _) hN (by omega) (by omega) s0 s1 (by omega) (fun e => by rw [h0 e, e]) 0 1 (by decide)
  have hk := ext_keep (ls := ls) (m := (m : Int)) ls.length 0 st (Nat.le_refl _) s0 (by omega) (fun e => by rw [h0 e, e])
  have ht := fun hh => ext_top (ls := ls) (m := (m : Int)) (st := st) hN hh s0 h0
  have hw : IntKind.i64.wrap ((m : Int) + 1) = ((m + 1 : Nat) : Int) := by rw [IntWalk.i64_in _ (by omega)]; omega
  rw [Nat.sub_self] at hX hk
  unfold exR at hX
  have hg1 : (ext ls (m : Int) ls.length 0 st).1 = true ∨ (ext ls (m : Int) ls.length 0 st).2.1 < 0 → (m, ext ls (m : Int) ls.length 0 st) = Q := by
    intro hor
    rw [← hg]
    cases ls.length - m with
    | zero => rfl
    | succ j =>
      rw [fewF]
      split
      · rfl
      · split
        · rfl
        · rename_i e1 e2; rcases hor with e | e
          · exact absurd e e1
          · exact absurd e e2
  have hg2 : ¬ ((ext ls (m : Int) ls.length 0 st).1 = true ∨ (ext ls (m : Int) ls.length 0 st).2.1 < 0) → m < ls.length ∧ fewF ls (ls.length - (m + 1)) (m + 1) (ext ls (m : Int) ls.length 0 st).2 = Q := by
    intro hor
    have hml : m < ls.length := by
      apply Nat.lt_of_le_of_ne hm
      intro e
      exact hor (ht (by omega))
    refine ⟨hml, ?_⟩
    rw [← hg, show ls.length - m = (ls.length - (m + 1)) + 1 by omega, fewF]
    rw [if_neg (fun e => hor (.inl e)), if_neg (fun e => hor (.inr e))]
  clear hg ht
  generalize ext ls (m : Int) ls.length 0 st = q at *
  obtain ⟨qo, qb, qf⟩ := q
  have kb := hk.bud
  have kl := hk.lo
  dsimp only at hX kb hg1 hg2 kl
  cases qo with
  | true =>
    have hg := hg1 (.inl rfl)
    rw [if_pos rfl] at hX
    ((repeat' (first
    | (show SQ _ _ _ _ _ _ _ _; first | apply sq_nil | (apply q_move; exact rfl; exact rfl) | (apply q_assign; exact rfl; exact rfl) | (apply q_fieldAddr; exact rfl; exact rfl; exact (ty rfl); exact rfl; exact rfl; exact rfl; exact rfl) | (apply q_ld1p; exact rfl; exact rfl; exact (ty rfl); exact rfl; exact rfl; exact (by first | rfl | assumption | ((try simp only [Nat.zero_add]); refine List.getElem?_set_self ?_; (try simp only [List.length_set]); assumption)); exact rfl))
    | (show SQ _ _ _ _ _ _ _ _; (first | (apply q_callC; exact rfl; exact rfl; exact rfl; exact hX _; (focus ((repeat (first | exact trivial | refine ⟨by first | exact rfl | assumption, ?_⟩)); done)); skip)); (try simp only [put, rowsOf, plR, List.all_cons, selE, ovr, setH, del, cellsA, splice, isV, List.nil_append, List.cons_append, List.map_cons, List.map_nil, List.length_cons, List.length_nil, List.set_cons_zero, List.set_cons_succ, List.take_succ_cons, List.take_zero, List.take_nil, List.drop_succ_cons, List.drop_zero, List.drop_nil, List.append_nil, List.all_cons, List.all_nil, Bool.and_true, Bool.true_and, Bool.and_false, Bool.false_and, Nat.reduceAdd, Nat.zero_add, Nat.add_zero, Nat.reduceEqDiff, if_true, if_false, reduceIte]))
    | (show AW _ _ _ _ _ _ _ _; first | refine aw_region ?_ | (refine aw_seqk ?_; intro K hK) | refine aw_block ?_ | (apply aw_cond_t; exact rfl; exact rfl) | refine aw_ret ?_)
    | refine thn_n ?_
    | (refine hK _ _ _ ?_; clear hK K)
    | refine thn_r ?_
    | refine inb_r ?_)); all_goals (repeat (clear hK K)))
    all_goals (subst hg; exact fin_r ⟨⟨_, mv 0 2, .r3 _ _ _ _ _ _ (.tmp _ _ rfl) (.tmp _ _ rfl) (.tmp _ _ rfl), rfl, ⟨⟨rfl, rfl, rfl⟩, trivial⟩, rfl⟩, rfl, rfl, rfl⟩)
  | false =>
    rw [if_neg (by simp)] at hX
    by_cases c4 : qb < 0
    · have hg := hg1 (.inr c4)
      have d4 : decide (qb < 0) = true := by simpa using c4
      ((repeat' (first
    | (show SQ _ _ _ _ _ _ _ _; first | apply sq_nil | (apply q_move; exact rfl; exact rfl) | (apply q_assign; exact rfl; exact rfl) | (apply q_fieldAddr; exact rfl; exact rfl; exact (ty rfl); exact rfl; exact rfl; exact rfl; exact rfl) | (apply q_lss; exact rfl; exact rfl; exact rfl) | (apply q_ld1p; exact rfl; exact rfl; exact (ty rfl); exact rfl; exact rfl; exact (by first | rfl | assumption | ((try simp only [Nat.zero_add]); refine List.getElem?_set_self ?_; (try simp only [List.length_set]); assumption)); exact rfl))
    | (show SQ _ _ _ _ _ _ _ _; (first | (apply q_callC; exact rfl; exact rfl; exact rfl; exact hX _; (focus ((repeat (first | exact trivial | refine ⟨by first | exact rfl | assumption, ?_⟩)); done)); skip)); (try simp only [put, rowsOf, plR, List.all_cons, selE, ovr, setH, del, cellsA, splice, isV, List.nil_append, List.cons_append, List.map_cons, List.map_nil, List.length_cons, List.length_nil, List.set_cons_zero, List.set_cons_succ, List.take_succ_cons, List.take_zero, List.take_nil, List.drop_succ_cons, List.drop_zero, List.drop_nil, List.append_nil, List.all_cons, List.all_nil, Bool.and_true, Bool.true_and, Bool.and_false, Bool.false_and, Nat.reduceAdd, Nat.zero_add, Nat.add_zero, Nat.reduceEqDiff, if_true, if_false, reduceIte]))
    | (show AW _ _ _ _ _ _ _ _; first | refine aw_region ?_ | (refine aw_seqk ?_; intro K hK) | refine aw_block ?_ | (apply aw_cond_f; exact rfl; exact rfl) | (apply aw_cond_t; exact rfl; exact (by assumption)) | refine aw_ret ?_ | refine aw_skip ?_)
    | refine thn_n ?_
    | (refine hK _ _ _ ?_; clear hK K)
    | refine thn_r ?_
    | refine inb_r ?_)); all_goals (repeat (clear hK K)))
      all_goals exact absurd (hg ▸ hv) (by simp)
    · obtain ⟨hml, hg⟩ := hg2 (fun h => h.elim (fun e => by cases e) c4)
      have d4 : decide (qb < 0) = false := by simpa using c4
      ((repeat' (first
    | (show SQ _ _ _ _ _ _ _ _; first | apply sq_nil | (apply q_move; exact rfl; exact rfl) | (apply q_assign; exact rfl; exact rfl) | (apply q_fieldAddr; exact rfl; exact rfl; exact (ty rfl); exact rfl; exact rfl; exact rfl; exact rfl) | (apply q_add; exact rfl; exact rfl; exact rfl) | (apply q_lss; exact rfl; exact rfl; exact rfl) | (apply q_ld1p; exact rfl; exact rfl; exact (ty rfl); exact rfl; exact rfl; exact (by first | rfl | assumption | ((try simp only [Nat.zero_add]); refine List.getElem?_set_self ?_; (try simp only [List.length_set]); assumption)); exact rfl))
    | (show SQ _ _ _ _ _ _ _ _; (first | (apply q_callC; exact rfl; exact rfl; exact rfl; exact hX _; (focus ((repeat (first | exact trivial | refine ⟨by first | exact rfl | assumption, ?_⟩)); done)); skip)); (try simp only [put, rowsOf, plR, List.all_cons, selE, ovr, setH, del, cellsA, splice, isV, List.nil_append, List.cons_append, List.map_cons, List.map_nil, List.length_cons, List.length_nil, List.set_cons_zero, List.set_cons_succ, List.take_succ_cons, List.take_zero, List.take_nil, List.drop_succ_cons, List.drop_zero, List.drop_nil, List.append_nil, List.all_cons, List.all_nil, Bool.and_true, Bool.true_and, Bool.and_false, Bool.false_and, Nat.reduceAdd, Nat.zero_add, Nat.add_zero, Nat.reduceEqDiff, if_true, if_false, reduceIte]))
    | (show AW _ _ _ _ _ _ _ _; first | refine aw_region ?_ | (refine aw_seqk ?_; intro K hK) | refine aw_block ?_ | (apply aw_cond_f; exact rfl; exact rfl) | (apply aw_cond_f; exact rfl; exact (by assumption)) | refine aw_skip ?_)
    | refine thn_n ?_
    | (refine hK _ _ _ ?_; clear hK K)
    | refine inb_n ?_)); all_goals (repeat (clear hK K)))
      all_goals (refine ⟨(m + 1, (qb, qf)), mv 1 2, ⟨hml, by dsimp only; omega, by dsimp only; omega, fun e => by omega, hg⟩, by dsimp only; omega, ?_⟩; (try dsimp only); rw [← hw]; exact ⟨by (repeat (refine ⟨by first | exact lk_i rfl rfl | exact lk_r rfl rfl rfl, ?_⟩)); exact trivial, by (repeat (refine ⟨by first | exact ⟨rfl, rfl, rfl⟩, ?_⟩)); exact trivial, by rfl, by exact pin_0⟩)
set_option maxHeartbeats 4000000 in
theorem SFewest_bad_ro (bu : Int) (h : nbB ls = false) (k : Nat) : RO Try.prog 25 [.dsl 1 (nbL ls), .v (.int .i64 bu)] k (.tup [.v (.slice none 0 0), .v (.int .i64 0), .v (.int .i64 1)]) [] k := by
  have hV := l23Ok_ro ls hS
  have b1 : (!nbB ls) = true := by rw [h]; rfl
  refine RO.ofp Try.func25 Try.ntmps25 rfl (goFn_of Try.func25 rfl (by kernel_rfl)) rfl rfl rfl ?_
  ((repeat' (first
    | (show SQ _ _ _ _ _ _ _ _; first | apply sq_nil | (apply q_move; exact rfl; exact rfl) | (apply q_assign; exact rfl; exact rfl) | (apply q_not; exact rfl; exact rfl))
    | (show SQ _ _ _ _ _ _ _ _; (first | (apply q_callU; exact rfl; exact rfl; exact rfl; exact FzL.of rfl; exact hV _)); (try simp only [put, rowsOf, plR, List.all_cons, selE, ovr, setH, del, cellsA, splice, isV, List.nil_append, List.cons_append, List.map_cons, List.map_nil, List.length_cons, List.length_nil, List.set_cons_zero, List.set_cons_succ, List.take_succ_cons, List.take_zero, List.take_nil, List.drop_succ_cons, List.drop_zero, List.drop_nil, List.append_nil, List.all_cons, List.all_nil, Bool.and_true, Bool.true_and, Bool.and_false, Bool.false_and, Nat.reduceAdd, Nat.zero_add, Nat.add_zero, Nat.reduceEqDiff, if_true, if_false, reduceIte]))
    | (show AW _ _ _ _ _ _ _ _; first | refine aw_region ?_ | (refine aw_seqk ?_; intro K hK) | (apply aw_cond_t; exact rfl; exact (by assumption)) | refine aw_ret ?_)
    | refine thn_n ?_
    | (refine hK _ _ _ ?_; clear hK K)
    | refine thn_r ?_)); all_goals (repeat (clear hK K)))
  all_goals refine fin_r (fin_p (.r3 _ _ _ _ _ _ (.tmp _ _ rfl) (.tmp _ _ rfl) (.tmp _ _ rfl)) ?_ rfl rfl rfl)
  all_goals rfl
set_option maxHeartbeats 4000000 in
theorem SFewest_rng_ro (bu : Int) (h : nbB ls = true) (h2 : inB bu 1 20000 = false) (k : Nat) : RO Try.prog 25 [.dsl 1 (nbL ls), .v (.int .i64 bu)] k (.tup [.v (.slice none 0 0), .v (.int .i64 0), .v (.int .i64 2)]) [] k := by
  have hV := l23Ok_ro ls hS
  have b1 : (!nbB ls) = false := by rw [h]; rfl
  have b2 : (!inB bu 1 20000) = true := by rw [h2]; rfl
  refine RO.ofp Try.func25 Try.ntmps25 rfl (goFn_of Try.func25 rfl (by kernel_rfl)) rfl rfl rfl ?_
  ((repeat' (first
    | (show SQ _ _ _ _ _ _ _ _; first | apply sq_nil | (apply q_move; exact rfl; exact rfl) | (apply q_assign; exact rfl; exact rfl) | (apply q_not; exact rfl; exact rfl))
    | (show SQ _ _ _ _ _ _ _ _; (first | (apply q_callU; exact rfl; exact rfl; exact rfl; exact FzL.of rfl; exact hV _) | (apply q_callU; exact rfl; exact rfl; exact rfl; exact FzL.of rfl; exact l00In_ro _ _ _ _)); (try simp only [put, rowsOf, plR, List.all_cons, selE, ovr, setH, del, cellsA, splice, isV, List.nil_append, List.cons_append, List.map_cons, List.map_nil, List.length_cons, List.length_nil, List.set_cons_zero, List.set_cons_succ, List.take_succ_cons, List.take_zero, List.take_nil, List.drop_succ_cons, List.drop_zero, List.drop_nil, List.append_nil, List.all_cons, List.all_nil, Bool.and_true, Bool.true_and, Bool.and_false, Bool.false_and, Nat.reduceAdd, Nat.zero_add, Nat.add_zero, Nat.reduceEqDiff, if_true, if_false, reduceIte]))
    | (show AW _ _ _ _ _ _ _ _; first | refine aw_region ?_ | (refine aw_seqk ?_; intro K hK) | (apply aw_cond_t; exact rfl; exact (by assumption)) | (apply aw_cond_f; exact rfl; exact (by assumption)) | refine aw_ret ?_ | refine aw_skip ?_)
    | refine thn_n ?_
    | (refine hK _ _ _ ?_; clear hK K)
    | refine thn_r ?_)); all_goals (repeat (clear hK K)))
  all_goals refine fin_r (fin_p (.r3 _ _ _ _ _ _ (.tmp _ _ rfl) (.tmp _ _ rfl) (.tmp _ _ rfl)) ?_ rfl rfl rfl)
  all_goals rfl
theorem SFewest_okR (bu : Int) (h : nbB ls = true) (h2 : inB bu 1 20000 = true) (hv : (fewS ls ls.length 0 bu).2.1 = true) (k : Nat) : RO Try.prog 25 [.dsl 1 (nbL ls), .v (.int .i64 bu)] k (.tup [.sl k 0 ls.length, .v (.int .i64 ((fewS ls ls.length 0 bu).1 : Int)), .v (.int .i64 0)]) [(k, ⟨2, 1, true, (fewS ls ls.length 0 bu).2.2.2.map inL⟩)] (k + 1) := by
  have hV := l23Ok_ro ls hS
  have hBr := l23Bars_ro ls hS h
  have b1 : (!nbB ls) = false := by rw [h]; rfl
  have b2 : (!inB bu 1 20000) = false := by rw [h2]; rfl
  have hN := nbB_in h
  have hnl := nbL_len ls
  have hbu : 1 ≤ bu ∧ bu ≤ 20000 := by simpa [inB] using h2
  have hus := us_in ls ls.length hN
  generalize hQQ : fewS ls ls.length 0 bu = Q at *
  refine RO.ofm (.tup [.sl 0 0 ls.length, .v (.int .i64 (Q.1 : Int)), .v (.int .i64 0)]) ([(0, ⟨2, 1, true, Q.2.2.2.map inL⟩)]) 1 Try.func25 Try.ntmps25 rfl (goFn_of Try.func25 rfl (by kernel_rfl)) rfl rfl (by simp [renA, renL]) (by simp [shH, renB]) rfl ?_
  ((repeat' (first
    | (show SQ _ _ _ _ _ _ _ _; first | apply sq_nil | (apply q_move; exact rfl; exact rfl) | (apply q_assign; exact rfl; exact rfl) | (apply q_not; exact rfl; exact rfl))
    | (show SQ _ _ _ _ _ _ _ _; (first | (apply q_callU; exact rfl; exact rfl; exact rfl; exact FzL.of rfl; exact hV _) | (apply q_callU; exact rfl; exact rfl; exact rfl; exact FzL.of rfl; exact l00In_ro _ _ _ _)); (try simp only [put, rowsOf, plR, List.all_cons, selE, ovr, setH, del, cellsA, splice, isV, List.nil_append, List.cons_append, List.map_cons, List.map_nil, List.length_cons, List.length_nil, List.set_cons_zero, List.set_cons_succ, List.take_succ_cons, List.take_zero, List.take_nil, List.drop_succ_cons, List.drop_zero, List.drop_nil, List.append_nil, List.all_cons, List.all_nil, Bool.and_true, Bool.true_and, Bool.and_false, Bool.false_and, Nat.reduceAdd, Nat.zero_add, Nat.add_zero, Nat.reduceEqDiff, if_true, if_false, reduceIte]))
    | (show AW _ _ _ _ _ _ _ _; first | refine aw_region ?_ | (refine aw_seqk ?_; intro K hK) | (apply aw_cond_f; exact rfl; exact (by assumption)) | refine aw_skip ?_)
    | refine thn_n ?_
    | (refine hK _ _ _ ?_; clear hK K))); all_goals (repeat (clear hK K)))
  refine q_callU rfl rfl rfl (FzL.of rfl) (hBr _) ?_
  refine sq_frzT2 16 (f := barB ls) [] rfl rfl (fun j c hc => ?_) (fun i b hb => by simp [look_nil] at hb) ?_
  · show Aw.look (_ ++ []) _ = _
    rw [List.append_nil]; exact tab_in j c hc
  ((repeat' (first
    | (show SQ _ _ _ _ _ _ _ _; first | apply sq_nil | (apply q_move; exact rfl; exact rfl) | (apply q_assign; exact rfl; exact rfl) | (apply q_build; exact rfl; exact (ty rfl); exact rfl; exact rfl; exact rfl))
    | (show SQ _ _ _ _ _ _ _ _; (first | (apply q_box; exact rfl; exact rfl; exact rfl)); (try simp only [put, rowsOf, plR, List.all_cons, selE, ovr, setH, del, cellsA, splice, isV, List.nil_append, List.cons_append, List.map_cons, List.map_nil, List.length_cons, List.length_nil, List.set_cons_zero, List.set_cons_succ, List.take_succ_cons, List.take_zero, List.take_nil, List.drop_succ_cons, List.drop_zero, List.drop_nil, List.append_nil, List.all_cons, List.all_nil, Bool.and_true, Bool.true_and, Bool.and_false, Bool.false_and, Nat.reduceAdd, Nat.zero_add, Nat.add_zero, Nat.reduceEqDiff, if_true, if_false, reduceIte]))
    | (show AW _ _ _ _ _ _ _ _; first | refine aw_region ?_ | (refine aw_seqk ?_; intro K hK) | refine aw_block ?_)
    | refine thn_n ?_
    | (refine hK _ _ _ ?_; clear hK K))); all_goals (repeat (clear hK K)))
  refine aw_nilB 5000 0 1 2 1 rfl rfl rfl rfl rfl ?_
  refine aw_loop (ρ := rn5) (ι := (Nat × Int) × (Int × Bool) × (Int × List Int)) (fun s => ([(8, .v (.int .i64 (s.1.1 : Int))), (7, .ptr 0 0 0), (0, .dsl 1 (nbL ls))],
      [(0, ⟨81, 6, false, [[.dsl 1 (dT ls.length (barB ls)), .sl 1 0 0, .v (.int .i64 s.1.2), .v (.int .i64 s.2.1.1), .v (.int .i64 bu), .v (.bool s.2.1.2)]]⟩), (1, ⟨2, 1, true, s.2.2.2.map inL⟩)], 2))
    (fun s => s.1.1 ≤ ls.length + 1 ∧ s.2.1.1 = bu - max s.2.2.1 0 ∧ s.2.1.2 = decide (s.2.2.1 < 0) ∧ -1 ≤ s.2.2.1 ∧ s.2.2.1 ≤ bu ∧ ((0 ≤ s.2.2.1 ∧ s.1.1 ≤ ls.length ∧ fewS ls (ls.length - s.1.1) s.1.1 s.2.2.1 = Q) ∨ (s.2.2.1 = -1 ∧ Q.2.1 = false))) (fun s => ls.length + 1 - s.1.1) ((0, 0), (0, false), (bu, []))
    ⟨Nat.zero_le _, by dsimp only; omega, by dsimp only; simp; omega, by dsimp only; omega, Int.le_refl _, .inl ⟨by dsimp only; omega, Nat.zero_le _, hQQ⟩⟩ ⟨by (repeat (refine ⟨by first | exact lk_i rfl rfl | exact lk_d rfl rfl | exact lk_r rfl rfl rfl, ?_⟩)); exact trivial, by (repeat (refine ⟨by first | exact ⟨rfl, rfl, rfl⟩, ?_⟩)); exact trivial, by rfl, by exact pin_0⟩ ?_
  rintro ⟨⟨m, mo⟩, ⟨nd, fl⟩, ⟨b, l⟩⟩ ⟨hm, hnd, hfl, s0, s1, hg⟩
  dsimp only at hm hnd hfl s0 s1 hg
  rcases hg with ⟨hb0, hmn, hg⟩ | ⟨rfl, hgf⟩
  · have d1 : decide ((m : Int) ≤ ((nbL ls).length : Int)) = true := by rw [hnl, decide_eq_true_eq]; omega
    obtain rfl : fl = false := by rw [hfl]; simpa using hb0
    have hX := run_rc ls (m : Int) bu (by omega) hbu ls.length 0 (b, []) (Nat.le_refl _) hN (by omega) (by omega) hb0 s1 (by rw [Nat.sub_self]; exact Nat.zero_le _) (fun e => by rw [e]; rfl) 0 2 (by decide)
    have hk := ext_keep (ls := ls) (m := (m : Int)) ls.length 0 (b, []) (Nat.le_refl _) hb0 (by rw [Nat.sub_self]; exact Nat.zero_le _) (fun e => by rw [e]; rfl)
    have ht := fun hh => ext_top (ls := ls) (m := (m : Int)) (st := (b, [])) hN hh hb0 (fun _ => rfl)
    have hw : IntKind.i64.wrap ((m : Int) + 1) = ((m + 1 : Nat) : Int) := by rw [IntWalk.i64_in _ (by omega)]; omega
    rw [Nat.sub_self] at hX hk
    unfold fdR at hX
    rw [← hnd, ← hfl] at hX
    dsimp only [List.map_nil] at hX
    have hg1 : (ext ls (m : Int) ls.length 0 (b, [])).1 = true ∨ (ext ls (m : Int) ls.length 0 (b, [])).2.1 < 0 → (m, ext ls (m : Int) ls.length 0 (b, [])) = Q := by
      intro hor
      rw [← hg]
      cases ls.length - m with
      | zero => rfl
      | succ j =>
        rw [fewS]
        split
        · rfl
        · split
          · rfl
          · rename_i e1 e2; rcases hor with e | e
            · exact absurd e e1
            · exact absurd e e2
    have hg2 : ¬ ((ext ls (m : Int) ls.length 0 (b, [])).1 = true ∨ (ext ls (m : Int) ls.length 0 (b, [])).2.1 < 0) → m < ls.length ∧ fewS ls (ls.length - (m + 1)) (m + 1) (ext ls (m : Int) ls.length 0 (b, [])).2.1 = Q := by
      intro hor
      have hml : m < ls.length := by
        apply Nat.lt_of_le_of_ne hmn
        intro e
        exact hor (ht (by omega))
      refine ⟨hml, ?_⟩
      rw [← hg, show ls.length - m = (ls.length - (m + 1)) + 1 by omega, fewS]
      rw [if_neg (fun e => hor (.inl e)), if_neg (fun e => hor (.inr e))]
    clear hg ht
    generalize ext ls (m : Int) ls.length 0 (b, []) = q at *
    obtain ⟨qo, qb, qf⟩ := q
    have kb := hk.bud
    have kl := hk.lo
    dsimp only at hX kb hg1 hg2 kl
    cases qo with
    | true =>
      have hg := hg1 (.inl rfl)
      rw [if_pos rfl] at hX
      ((repeat' (first
    | (show SQ _ _ _ _ _ _ _ _; first | apply sq_nil | (apply q_move; exact rfl; exact rfl) | (apply q_assign; exact rfl; exact rfl) | (apply q_pick_t; exact rfl; exact rfl; exact rfl; exact (by first | assumption | exact rfl)) | (apply q_fieldAddr; exact rfl; exact rfl; exact (ty rfl); exact rfl; exact rfl; exact rfl; exact rfl) | (apply q_nilc; exact rfl; exact rfl; exact rfl) | (apply q_not; exact rfl; exact rfl) | (apply q_lend; exact rfl; exact rfl; exact (ty rfl); exact rfl) | (apply q_leq; exact rfl; exact rfl; exact rfl) | (apply q_ld1p; exact rfl; exact rfl; exact (ty rfl); exact rfl; exact rfl; exact (by first | rfl | assumption | ((try simp only [Nat.zero_add]); refine List.getElem?_set_self ?_; (try simp only [List.length_set]); assumption)); exact rfl) | (apply q_g; exact rfl; exact rfl; exact rfl; exact (by assumption)))
    | (show SQ _ _ _ _ _ _ _ _; (first | (apply q_store; exact rfl; exact rfl; exact (ty rfl); exact rfl; exact (by first | rfl | assumption | ((try simp only [Nat.zero_add]); refine List.getElem?_set_self ?_; (try simp only [List.length_set]); assumption)); exact rfl; exact rfl; exact rfl) | (apply q_build0; exact rfl; exact (ty rfl); exact rfl) | (apply q_callC; exact rfl; exact rfl; exact rfl; exact hX _; (focus ((repeat (first | exact trivial | refine ⟨by first | exact rfl | assumption, ?_⟩)); done)); skip)); (try simp only [put, rowsOf, plR, List.all_cons, selE, ovr, setH, del, cellsA, splice, isV, List.nil_append, List.cons_append, List.map_cons, List.map_nil, List.length_cons, List.length_nil, List.set_cons_zero, List.set_cons_succ, List.take_succ_cons, List.take_zero, List.take_nil, List.drop_succ_cons, List.drop_zero, List.drop_nil, List.append_nil, List.all_cons, List.all_nil, Bool.and_true, Bool.true_and, Bool.and_false, Bool.false_and, Nat.reduceAdd, Nat.zero_add, Nat.add_zero, Nat.reduceEqDiff, if_true, if_false, reduceIte]))
    | (show AW _ _ _ _ _ _ _ _; first | refine aw_region ?_ | (refine aw_seqk ?_; intro K hK) | refine aw_block ?_ | (apply aw_cond_t; exact rfl; exact rfl) | refine aw_ret ?_ | refine aw_skip ?_)
    | refine thn_n ?_
    | (refine hK _ _ _ ?_; clear hK K)
    | refine thn_r ?_
    | refine inb_r ?_)); all_goals (repeat (clear hK K)))
      all_goals (subst hg; exact fin_r ⟨⟨_, mv 0 3, .r3 _ _ _ _ _ _ (.tmp _ _ rfl) (.tmp _ _ rfl) (.tmp _ _ rfl), rfl, ⟨⟨rfl, rfl, rfl⟩, trivial⟩, rfl⟩, rfl, rfl, rfl⟩)
    | false =>
      rw [if_neg (by simp)] at hX
      ((repeat' (first
    | (show SQ _ _ _ _ _ _ _ _; first | apply sq_nil | (apply q_move; exact rfl; exact rfl) | (apply q_assign; exact rfl; exact rfl) | (apply q_pick_t; exact rfl; exact rfl; exact rfl; exact (by first | assumption | exact rfl)) | (apply q_fieldAddr; exact rfl; exact rfl; exact (ty rfl); exact rfl; exact rfl; exact rfl; exact rfl) | (apply q_nilc; exact rfl; exact rfl; exact rfl) | (apply q_not; exact rfl; exact rfl) | (apply q_lend; exact rfl; exact rfl; exact (ty rfl); exact rfl) | (apply q_add; exact rfl; exact rfl; exact rfl) | (apply q_leq; exact rfl; exact rfl; exact rfl) | (apply q_ld1p; exact rfl; exact rfl; exact (ty rfl); exact rfl; exact rfl; exact (by first | rfl | assumption | ((try simp only [Nat.zero_add]); refine List.getElem?_set_self ?_; (try simp only [List.length_set]); assumption)); exact rfl) | (apply q_g; exact rfl; exact rfl; exact rfl; exact (by assumption)))
    | (show SQ _ _ _ _ _ _ _ _; (first | (apply q_store; exact rfl; exact rfl; exact (ty rfl); exact rfl; exact (by first | rfl | assumption | ((try simp only [Nat.zero_add]); refine List.getElem?_set_self ?_; (try simp only [List.length_set]); assumption)); exact rfl; exact rfl; exact rfl) | (apply q_build0; exact rfl; exact (ty rfl); exact rfl) | (apply q_callC; exact rfl; exact rfl; exact rfl; exact hX _; (focus ((repeat (first | exact trivial | refine ⟨by first | exact rfl | assumption, ?_⟩)); done)); skip)); (try simp only [put, rowsOf, plR, List.all_cons, selE, ovr, setH, del, cellsA, splice, isV, List.nil_append, List.cons_append, List.map_cons, List.map_nil, List.length_cons, List.length_nil, List.set_cons_zero, List.set_cons_succ, List.take_succ_cons, List.take_zero, List.take_nil, List.drop_succ_cons, List.drop_zero, List.drop_nil, List.append_nil, List.all_cons, List.all_nil, Bool.and_true, Bool.true_and, Bool.and_false, Bool.false_and, Nat.reduceAdd, Nat.zero_add, Nat.add_zero, Nat.reduceEqDiff, if_true, if_false, reduceIte]))
    | (show AW _ _ _ _ _ _ _ _; first | refine aw_region ?_ | (refine aw_seqk ?_; intro K hK) | refine aw_block ?_ | (apply aw_cond_t; exact rfl; exact rfl) | (apply aw_cond_f; exact rfl; exact rfl) | refine aw_skip ?_)
    | refine thn_n ?_
    | (refine hK _ _ _ ?_; clear hK K)
    | refine inb_n ?_)); all_goals (repeat (clear hK K)))
      all_goals (refine ⟨((m + 1, (m : Int)), (bu - max qb 0, decide (qb < 0)), (qb, qf)), mv 1 3, ⟨by dsimp only; omega, rfl, rfl, kl, by dsimp only; omega, ?_⟩, by dsimp only; omega, ?_⟩)
      · by_cases c4 : qb < 0
        · have hg := hg1 (.inr c4)
          exact .inr ⟨by dsimp only; omega, by rw [← hg]⟩
        · obtain ⟨hml, hg⟩ := hg2 (fun h => h.elim (fun e => by cases e) c4)
          exact .inl ⟨by dsimp only; omega, hml, hg⟩
      · (try dsimp only); rw [← hw]; exact ⟨by (repeat (refine ⟨by first | exact lk_i rfl rfl | exact lk_d rfl rfl | exact lk_r rfl rfl rfl, ?_⟩)); exact trivial, by (repeat (refine ⟨by first | exact ⟨rfl, rfl, rfl⟩, ?_⟩)); exact trivial, by rfl, by exact pin_0⟩
  · obtain rfl : fl = true := by rw [hfl]; rfl
    by_cases c5 : (m : Int) ≤ (ls.length : Int)
    · have d1 : decide ((m : Int) ≤ ((nbL ls).length : Int)) = true := by rw [hnl]; simpa using c5
      ((repeat' (first
    | (show SQ _ _ _ _ _ _ _ _; first | apply sq_nil | (apply q_move; exact rfl; exact rfl) | (apply q_assign; exact rfl; exact rfl) | (apply q_pick_t; exact rfl; exact rfl; exact rfl; exact (by first | assumption | exact rfl)) | (apply q_fieldAddr; exact rfl; exact rfl; exact (ty rfl); exact rfl; exact rfl; exact rfl; exact rfl) | (apply q_nilc; exact rfl; exact rfl; exact rfl) | (apply q_not; exact rfl; exact rfl) | (apply q_lend; exact rfl; exact rfl; exact (ty rfl); exact rfl) | (apply q_leq; exact rfl; exact rfl; exact rfl) | (apply q_ld1p; exact rfl; exact rfl; exact (ty rfl); exact rfl; exact rfl; exact (by first | rfl | assumption | ((try simp only [Nat.zero_add]); refine List.getElem?_set_self ?_; (try simp only [List.length_set]); assumption)); exact rfl) | (apply q_g; exact rfl; exact rfl; exact rfl; exact (by assumption)))
    | (show AW _ _ _ _ _ _ _ _; first | refine aw_region ?_ | (refine aw_seqk ?_; intro K hK) | (apply aw_cond_f; exact rfl; exact rfl) | refine aw_ret ?_ | refine aw_exit ?_)
    | refine thn_n ?_
    | (refine hK _ _ _ ?_; clear hK K)
    | refine thn_e ?_
    | refine inb_same ?_
    | (clear hK K; refine hK _ _ _ ?_; clear hK K))); all_goals (repeat (clear hK K)))
      all_goals exact absurd (hgf.symm.trans hv) (by simp)
    · have d1 : decide ((m : Int) ≤ ((nbL ls).length : Int)) = false := by rw [hnl]; simpa using c5
      ((repeat' (first
    | (show SQ _ _ _ _ _ _ _ _; first | apply sq_nil | (apply q_move; exact rfl; exact rfl) | (apply q_assign; exact rfl; exact rfl) | (apply q_pick_f; exact rfl; exact rfl; exact rfl; exact (by first | assumption | exact rfl)) | (apply q_lend; exact rfl; exact rfl; exact (ty rfl); exact rfl) | (apply q_leq; exact rfl; exact rfl; exact rfl) | (apply q_s; exact rfl; exact rfl; exact rfl; exact (by assumption); exact rfl))
    | (show AW _ _ _ _ _ _ _ _; first | refine aw_region ?_ | (refine aw_seqk ?_; intro K hK) | (apply aw_cond_f; exact rfl; exact rfl) | refine aw_ret ?_ | refine aw_exit ?_)
    | refine thn_n ?_
    | (refine hK _ _ _ ?_; clear hK K)
    | refine thn_e ?_
    | refine inb_same ?_
    | (clear hK K; refine hK _ _ _ ?_; clear hK K))); all_goals (repeat (clear hK K)))
      all_goals exact absurd (hgf.symm.trans hv) (by simp)
theorem SFewest_full (bu : Int) (h : nbB ls = true) (h2 : inB bu 1 20000 = true) (hv : (fewS ls ls.length 0 bu).2.1 = false) (k : Nat) : RO Try.prog 25 [.dsl 1 (nbL ls), .v (.int .i64 bu)] k (.tup [.v (.slice none 0 0), .v (.int .i64 0), .v (.int .i64 5)]) [] k := by
  have hV := l23Ok_ro ls hS
  have hBr := l23Bars_ro ls hS h
  have b1 : (!nbB ls) = false := by rw [h]; rfl
  have b2 : (!inB bu 1 20000) = false := by rw [h2]; rfl
  have hN := nbB_in h
  have hnl := nbL_len ls
  have hbu : 1 ≤ bu ∧ bu ≤ 20000 := by simpa [inB] using h2
  have hus := us_in ls ls.length hN
  generalize hQQ : fewS ls ls.length 0 bu = Q at *
  refine RO.ofp Try.func25 Try.ntmps25 rfl (goFn_of Try.func25 rfl (by kernel_rfl)) rfl rfl rfl ?_
  ((repeat' (first
    | (show SQ _ _ _ _ _ _ _ _; first | apply sq_nil | (apply q_move; exact rfl; exact rfl) | (apply q_assign; exact rfl; exact rfl) | (apply q_not; exact rfl; exact rfl))
    | (show SQ _ _ _ _ _ _ _ _; (first | (apply q_callU; exact rfl; exact rfl; exact rfl; exact FzL.of rfl; exact hV _) | (apply q_callU; exact rfl; exact rfl; exact rfl; exact FzL.of rfl; exact l00In_ro _ _ _ _)); (try simp only [put, rowsOf, plR, List.all_cons, selE, ovr, setH, del, cellsA, splice, isV, List.nil_append, List.cons_append, List.map_cons, List.map_nil, List.length_cons, List.length_nil, List.set_cons_zero, List.set_cons_succ, List.take_succ_cons, List.take_zero, List.take_nil, List.drop_succ_cons, List.drop_zero, List.drop_nil, List.append_nil, List.all_cons, List.all_nil, Bool.and_true, Bool.true_and, Bool.and_false, Bool.false_and, Nat.reduceAdd, Nat.zero_add, Nat.add_zero, Nat.reduceEqDiff, if_true, if_false, reduceIte]))
    | (show AW _ _ _ _ _ _ _ _; first | refine aw_region ?_ | (refine aw_seqk ?_; intro K hK) | (apply aw_cond_f; exact rfl; exact (by assumption)) | refine aw_skip ?_)
    | refine thn_n ?_
    | (refine hK _ _ _ ?_; clear hK K))); all_goals (repeat (clear hK K)))
  refine q_callU rfl rfl rfl (FzL.of rfl) (hBr _) ?_
  refine sq_frzT2 16 (f := barB ls) [] rfl rfl (fun j c hc => ?_) (fun i b hb => by simp [look_nil] at hb) ?_
  · show Aw.look (_ ++ []) _ = _
    rw [List.append_nil]; exact tab_in j c hc
  ((repeat' (first
    | (show SQ _ _ _ _ _ _ _ _; first | apply sq_nil | (apply q_move; exact rfl; exact rfl) | (apply q_assign; exact rfl; exact rfl) | (apply q_build; exact rfl; exact (ty rfl); exact rfl; exact rfl; exact rfl))
    | (show SQ _ _ _ _ _ _ _ _; (first | (apply q_box; exact rfl; exact rfl; exact rfl)); (try simp only [put, rowsOf, plR, List.all_cons, selE, ovr, setH, del, cellsA, splice, isV, List.nil_append, List.cons_append, List.map_cons, List.map_nil, List.length_cons, List.length_nil, List.set_cons_zero, List.set_cons_succ, List.take_succ_cons, List.take_zero, List.take_nil, List.drop_succ_cons, List.drop_zero, List.drop_nil, List.append_nil, List.all_cons, List.all_nil, Bool.and_true, Bool.true_and, Bool.and_false, Bool.false_and, Nat.reduceAdd, Nat.zero_add, Nat.add_zero, Nat.reduceEqDiff, if_true, if_false, reduceIte]))
    | (show AW _ _ _ _ _ _ _ _; first | refine aw_region ?_ | (refine aw_seqk ?_; intro K hK) | refine aw_block ?_)
    | refine thn_n ?_
    | (refine hK _ _ _ ?_; clear hK K))); all_goals (repeat (clear hK K)))
  refine aw_nilB 5000 0 1 2 1 rfl rfl rfl rfl rfl ?_
  refine aw_loop (ρ := rn5) (ι := (Nat × Int) × (Int × Bool) × (Int × List Int)) (fun s => ([(8, .v (.int .i64 (s.1.1 : Int))), (7, .ptr 0 0 0), (0, .dsl 1 (nbL ls))],
      [(0, ⟨81, 6, false, [[.dsl 1 (dT ls.length (barB ls)), .sl 1 0 0, .v (.int .i64 s.1.2), .v (.int .i64 s.2.1.1), .v (.int .i64 bu), .v (.bool s.2.1.2)]]⟩), (1, ⟨2, 1, true, s.2.2.2.map inL⟩)], 2))
    (fun s => s.1.1 ≤ ls.length + 1 ∧ s.2.1.1 = bu - max s.2.2.1 0 ∧ s.2.1.2 = decide (s.2.2.1 < 0) ∧ -1 ≤ s.2.2.1 ∧ s.2.2.1 ≤ bu ∧ ((0 ≤ s.2.2.1 ∧ s.1.1 ≤ ls.length ∧ fewS ls (ls.length - s.1.1) s.1.1 s.2.2.1 = Q) ∨ (s.2.2.1 = -1 ∧ Q.2.1 = false))) (fun s => ls.length + 1 - s.1.1) ((0, 0), (0, false), (bu, []))
    ⟨Nat.zero_le _, by dsimp only; omega, by dsimp only; simp; omega, by dsimp only; omega, Int.le_refl _, .inl ⟨by dsimp only; omega, Nat.zero_le _, hQQ⟩⟩ ⟨by (repeat (refine ⟨by first | exact lk_i rfl rfl | exact lk_d rfl rfl | exact lk_r rfl rfl rfl, ?_⟩)); exact trivial, by (repeat (refine ⟨by first | exact ⟨rfl, rfl, rfl⟩, ?_⟩)); exact trivial, by rfl, by exact pin_0⟩ ?_
  rintro ⟨⟨m, mo⟩, ⟨nd, fl⟩, ⟨b, l⟩⟩ ⟨hm, hnd, hfl, s0, s1, hg⟩
  dsimp only at hm hnd hfl s0 s1 hg
  rcases hg with ⟨hb0, hmn, hg⟩ | ⟨rfl, hgf⟩
  · have d1 : decide ((m : Int) ≤ ((nbL ls).length : Int)) = true := by rw [hnl, decide_eq_true_eq]; omega
    obtain rfl : fl = false := by rw [hfl]; simpa using hb0
    have hX := run_rc ls (m : Int) bu (by omega) hbu ls.length 0 (b, []) (Nat.le_refl _) hN (by omega) (by omega) hb0 s1 (by rw [Nat.sub_self]; exact Nat.zero_le _) (fun e => by rw [e]; rfl) 0 2 (by decide)
    have hk := ext_keep (ls := ls) (m := (m : Int)) ls.length 0 (b, []) (Nat.le_refl _) hb0 (by rw [Nat.sub_self]; exact Nat.zero_le _) (fun e => by rw [e]; rfl)
    have ht := fun hh => ext_top (ls := ls) (m := (m : Int)) (st := (b, [])) hN hh hb0 (fun _ => rfl)
    have hw : IntKind.i64.wrap ((m : Int) + 1) = ((m + 1 : Nat) : Int) := by rw [IntWalk.i64_in _ (by omega)]; omega
    rw [Nat.sub_self] at hX hk
    unfold fdR at hX
    rw [← hnd, ← hfl] at hX
    dsimp only [List.map_nil] at hX
    have hg1 : (ext ls (m : Int) ls.length 0 (b, [])).1 = true ∨ (ext ls (m : Int) ls.length 0 (b, [])).2.1 < 0 → (m, ext ls (m : Int) ls.length 0 (b, [])) = Q := by
      intro hor
      rw [← hg]
      cases ls.length - m with
      | zero => rfl
      | succ j =>
        rw [fewS]
        split
        · rfl
        · split
          · rfl
          · rename_i e1 e2; rcases hor with e | e
            · exact absurd e e1
            · exact absurd e e2
    have hg2 : ¬ ((ext ls (m : Int) ls.length 0 (b, [])).1 = true ∨ (ext ls (m : Int) ls.length 0 (b, [])).2.1 < 0) → m < ls.length ∧ fewS ls (ls.length - (m + 1)) (m + 1) (ext ls (m : Int) ls.length 0 (b, [])).2.1 = Q := by
      intro hor
      have hml : m < ls.length := by
        apply Nat.lt_of_le_of_ne hmn
        intro e
        exact hor (ht (by omega))
      refine ⟨hml, ?_⟩
      rw [← hg, show ls.length - m = (ls.length - (m + 1)) + 1 by omega, fewS]
      rw [if_neg (fun e => hor (.inl e)), if_neg (fun e => hor (.inr e))]
    clear hg ht
    generalize ext ls (m : Int) ls.length 0 (b, []) = q at *
    obtain ⟨qo, qb, qf⟩ := q
    have kb := hk.bud
    have kl := hk.lo
    dsimp only at hX kb hg1 hg2 kl
    cases qo with
    | true =>
      have hg := hg1 (.inl rfl)
      rw [if_pos rfl] at hX
      ((repeat' (first
    | (show SQ _ _ _ _ _ _ _ _; first | apply sq_nil | (apply q_move; exact rfl; exact rfl) | (apply q_assign; exact rfl; exact rfl) | (apply q_pick_t; exact rfl; exact rfl; exact rfl; exact (by first | assumption | exact rfl)) | (apply q_fieldAddr; exact rfl; exact rfl; exact (ty rfl); exact rfl; exact rfl; exact rfl; exact rfl) | (apply q_nilc; exact rfl; exact rfl; exact rfl) | (apply q_not; exact rfl; exact rfl) | (apply q_lend; exact rfl; exact rfl; exact (ty rfl); exact rfl) | (apply q_leq; exact rfl; exact rfl; exact rfl) | (apply q_ld1p; exact rfl; exact rfl; exact (ty rfl); exact rfl; exact rfl; exact (by first | rfl | assumption | ((try simp only [Nat.zero_add]); refine List.getElem?_set_self ?_; (try simp only [List.length_set]); assumption)); exact rfl) | (apply q_g; exact rfl; exact rfl; exact rfl; exact (by assumption)))
    | (show SQ _ _ _ _ _ _ _ _; (first | (apply q_store; exact rfl; exact rfl; exact (ty rfl); exact rfl; exact (by first | rfl | assumption | ((try simp only [Nat.zero_add]); refine List.getElem?_set_self ?_; (try simp only [List.length_set]); assumption)); exact rfl; exact rfl; exact rfl) | (apply q_build0; exact rfl; exact (ty rfl); exact rfl) | (apply q_callC; exact rfl; exact rfl; exact rfl; exact hX _; (focus ((repeat (first | exact trivial | refine ⟨by first | exact rfl | assumption, ?_⟩)); done)); skip)); (try simp only [put, rowsOf, plR, List.all_cons, selE, ovr, setH, del, cellsA, splice, isV, List.nil_append, List.cons_append, List.map_cons, List.map_nil, List.length_cons, List.length_nil, List.set_cons_zero, List.set_cons_succ, List.take_succ_cons, List.take_zero, List.take_nil, List.drop_succ_cons, List.drop_zero, List.drop_nil, List.append_nil, List.all_cons, List.all_nil, Bool.and_true, Bool.true_and, Bool.and_false, Bool.false_and, Nat.reduceAdd, Nat.zero_add, Nat.add_zero, Nat.reduceEqDiff, if_true, if_false, reduceIte]))
    | (show AW _ _ _ _ _ _ _ _; first | refine aw_region ?_ | (refine aw_seqk ?_; intro K hK) | refine aw_block ?_ | (apply aw_cond_t; exact rfl; exact rfl) | refine aw_ret ?_ | refine aw_skip ?_)
    | refine thn_n ?_
    | (refine hK _ _ _ ?_; clear hK K)
    | refine thn_r ?_
    | refine inb_r ?_)); all_goals (repeat (clear hK K)))
      all_goals exact absurd (hg ▸ hv) (by simp)
    | false =>
      rw [if_neg (by simp)] at hX
      ((repeat' (first
    | (show SQ _ _ _ _ _ _ _ _; first | apply sq_nil | (apply q_move; exact rfl; exact rfl) | (apply q_assign; exact rfl; exact rfl) | (apply q_pick_t; exact rfl; exact rfl; exact rfl; exact (by first | assumption | exact rfl)) | (apply q_fieldAddr; exact rfl; exact rfl; exact (ty rfl); exact rfl; exact rfl; exact rfl; exact rfl) | (apply q_nilc; exact rfl; exact rfl; exact rfl) | (apply q_not; exact rfl; exact rfl) | (apply q_lend; exact rfl; exact rfl; exact (ty rfl); exact rfl) | (apply q_add; exact rfl; exact rfl; exact rfl) | (apply q_leq; exact rfl; exact rfl; exact rfl) | (apply q_ld1p; exact rfl; exact rfl; exact (ty rfl); exact rfl; exact rfl; exact (by first | rfl | assumption | ((try simp only [Nat.zero_add]); refine List.getElem?_set_self ?_; (try simp only [List.length_set]); assumption)); exact rfl) | (apply q_g; exact rfl; exact rfl; exact rfl; exact (by assumption)))
    | (show SQ _ _ _ _ _ _ _ _; (first | (apply q_store; exact rfl; exact rfl; exact (ty rfl); exact rfl; exact (by first | rfl | assumption | ((try simp only [Nat.zero_add]); refine List.getElem?_set_self ?_; (try simp only [List.length_set]); assumption)); exact rfl; exact rfl; exact rfl) | (apply q_build0; exact rfl; exact (ty rfl); exact rfl) | (apply q_callC; exact rfl; exact rfl; exact rfl; exact hX _; (focus ((repeat (first | exact trivial | refine ⟨by first | exact rfl | assumption, ?_⟩)); done)); skip)); (try simp only [put, rowsOf, plR, List.all_cons, selE, ovr, setH, del, cellsA, splice, isV, List.nil_append, List.cons_append, List.map_cons, List.map_nil, List.length_cons, List.length_nil, List.set_cons_zero, List.set_cons_succ, List.take_succ_cons, List.take_zero, List.take_nil, List.drop_succ_cons, List.drop_zero, List.drop_nil, List.append_nil, List.all_cons, List.all_nil, Bool.and_true, Bool.true_and, Bool.and_false, Bool.false_and, Nat.reduceAdd, Nat.zero_add, Nat.add_zero, Nat.reduceEqDiff, if_true, if_false, reduceIte]))
    | (show AW _ _ _ _ _ _ _ _; first | refine aw_region ?_ | (refine aw_seqk ?_; intro K hK) | refine aw_block ?_ | (apply aw_cond_t; exact rfl; exact rfl) | (apply aw_cond_f; exact rfl; exact rfl) | refine aw_skip ?_)
    | refine thn_n ?_
    | (refine hK _ _ _ ?_; clear hK K)
    | refine inb_n ?_)); all_goals (repeat (clear hK K)))
      all_goals (refine ⟨((m + 1, (m : Int)), (bu - max qb 0, decide (qb < 0)), (qb, qf)), mv 1 3, ⟨by dsimp only; omega, rfl, rfl, kl, by dsimp only; omega, ?_⟩, by dsimp only; omega, ?_⟩)
      · by_cases c4 : qb < 0
        · have hg := hg1 (.inr c4)
          exact .inr ⟨by dsimp only; omega, by rw [← hg]⟩
        · obtain ⟨hml, hg⟩ := hg2 (fun h => h.elim (fun e => by cases e) c4)
          exact .inl ⟨by dsimp only; omega, hml, hg⟩
      · (try dsimp only); rw [← hw]; exact ⟨by (repeat (refine ⟨by first | exact lk_i rfl rfl | exact lk_d rfl rfl | exact lk_r rfl rfl rfl, ?_⟩)); exact trivial, by (repeat (refine ⟨by first | exact ⟨rfl, rfl, rfl⟩, ?_⟩)); exact trivial, by rfl, by exact pin_0⟩
  · obtain rfl : fl = true := by rw [hfl]; rfl
    by_cases c5 : (m : Int) ≤ (ls.length : Int)
    · have d1 : decide ((m : Int) ≤ ((nbL ls).length : Int)) = true := by rw [hnl]; simpa using c5
      ((repeat' (first
    | (show SQ _ _ _ _ _ _ _ _; first | apply sq_nil | (apply q_move; exact rfl; exact rfl) | (apply q_assign; exact rfl; exact rfl) | (apply q_pick_t; exact rfl; exact rfl; exact rfl; exact (by first | assumption | exact rfl)) | (apply q_fieldAddr; exact rfl; exact rfl; exact (ty rfl); exact rfl; exact rfl; exact rfl; exact rfl) | (apply q_nilc; exact rfl; exact rfl; exact rfl) | (apply q_not; exact rfl; exact rfl) | (apply q_lend; exact rfl; exact rfl; exact (ty rfl); exact rfl) | (apply q_leq; exact rfl; exact rfl; exact rfl) | (apply q_ld1p; exact rfl; exact rfl; exact (ty rfl); exact rfl; exact rfl; exact (by first | rfl | assumption | ((try simp only [Nat.zero_add]); refine List.getElem?_set_self ?_; (try simp only [List.length_set]); assumption)); exact rfl) | (apply q_g; exact rfl; exact rfl; exact rfl; exact (by assumption)))
    | (show AW _ _ _ _ _ _ _ _; first | refine aw_region ?_ | (refine aw_seqk ?_; intro K hK) | (apply aw_cond_f; exact rfl; exact rfl) | refine aw_ret ?_ | refine aw_exit ?_)
    | refine thn_n ?_
    | (refine hK _ _ _ ?_; clear hK K)
    | refine thn_e ?_
    | refine inb_same ?_
    | (clear hK K; refine hK _ _ _ ?_; clear hK K))); all_goals (repeat (clear hK K)))
      all_goals (refine fin_r (fin_p (.r3 _ _ _ _ _ _ (.tmp _ _ rfl) (.tmp _ _ rfl) (.tmp _ _ rfl)) ?_ rfl rfl rfl); rfl)
    · have d1 : decide ((m : Int) ≤ ((nbL ls).length : Int)) = false := by rw [hnl]; simpa using c5
      ((repeat' (first
    | (show SQ _ _ _ _ _ _ _ _; first | apply sq_nil | (apply q_move; exact rfl; exact rfl) | (apply q_assign; exact rfl; exact rfl) | (apply q_pick_f; exact rfl; exact rfl; exact rfl; exact (by first | assumption | exact rfl)) | (apply q_lend; exact rfl; exact rfl; exact (ty rfl); exact rfl) | (apply q_leq; exact rfl; exact rfl; exact rfl) | (apply q_s; exact rfl; exact rfl; exact rfl; exact (by assumption); exact rfl))
    | (show AW _ _ _ _ _ _ _ _; first | refine aw_region ?_ | (refine aw_seqk ?_; intro K hK) | (apply aw_cond_f; exact rfl; exact rfl) | refine aw_ret ?_ | refine aw_exit ?_)
    | refine thn_n ?_
    | (refine hK _ _ _ ?_; clear hK K)
    | refine thn_e ?_
    | refine inb_same ?_
    | (clear hK K; refine hK _ _ _ ?_; clear hK K))); all_goals (repeat (clear hK K)))
      all_goals (refine fin_r (fin_p (.r3 _ _ _ _ _ _ (.tmp _ _ rfl) (.tmp _ _ rfl) (.tmp _ _ rfl)) ?_ rfl rfl rfl); rfl)
theorem Fewest_both (bu : Int) : ∃ (cs : List Int) (m e : Int), cs.length ≤ 24 ∧
    (∀ k, RO Try.prog 22 [.dsl 1 (nbL ls), .v (.int .i64 bu)] k (.tup [.sl k 0 cs.length, .v (.int .i64 m), .v (.int .i64 e)]) [(k, ⟨2, 1, true, cs.map inL⟩)] (k + 1)) ∧
    ∀ k, RO Try.prog 25 [.dsl 1 (nbL ls), .v (.int .i64 bu)] k (.tup [.sl k 0 cs.length, .v (.int .i64 m), .v (.int .i64 e)]) [(k, ⟨2, 1, true, cs.map inL⟩)] (k + 1) := by
  cases h : nbB ls with
  | false => exact ⟨[], 0, 1, Nat.zero_le _, fun k => RO.nil3 _ (Fewest_bad_ro ls hS bu h k), fun k => RO.nil3 _ (SFewest_bad_ro ls hS bu h k)⟩
  | true =>
    cases h2 : inB bu 1 20000 with
    | false => exact ⟨[], 0, 2, Nat.zero_le _, fun k => RO.nil3 _ (Fewest_rng_ro ls hS bu h h2 k), fun k => RO.nil3 _ (SFewest_rng_ro ls hS bu h h2 k)⟩
    | true =>
      have hN := nbB_in h
      have hbu : 1 ≤ bu ∧ bu ≤ 20000 := by simpa [inB] using h2
      obtain ⟨q1, q2, q3⟩ := few_eq (ls := ls) ls.length 0 bu [] (fun _ => rfl)
      cases h3 : (fewF ls ls.length 0 (bu, [])).2.1 with
      | false => exact ⟨[], 0, 5, Nat.zero_le _, fun k => RO.nil3 _ (Fewest_full ls hS bu h h2 h3 k), fun k => RO.nil3 _ (SFewest_full ls hS bu h h2 (by rw [← q2]; exact h3) k)⟩
      | true =>
        obtain ⟨g1, g2, g3, g4, g5, g6⟩ := few_ok hN ls.length 0 (bu, []) (by omega) (by dsimp only; omega) (fun _ => rfl) h3
        refine ⟨(fewF ls ls.length 0 (bu, [])).2.2.2, ((fewF ls ls.length 0 (bu, [])).1 : Int), 0, by omega, fun k => ?_, fun k => ?_⟩
        · rw [g4]; exact Fewest_okR ls hS bu h h2 h3 k
        · rw [g4, q1, q3 h3]; exact SFewest_okR ls hS bu h h2 (by rw [← q2]; exact h3) k
end
end Go.Proofs.Yteknfaldpajlpaa.Nb

namespace Go.Proofs.Yteknfaldpajlpaa.Nb
open Go Go.RowKit Go.Proofs.Yteknfaldpajlpaa.Aw Go.Proofs.Yteknfaldpajlpaa.In Go.Proofs.Yteknfaldpajlpaa.Il
set_option linter.unusedSimpArgs false
set_option linter.unusedVariables false
set_option linter.unusedSectionVars false
attribute [local irreducible] AW SQ Step RO RC DE Thn InB
theorem canon0 {H O : Hp} (ho : subE H O) : ∀ i c, Aw.look O i = some c → Aw.look H i = some c := by
  have := canon1 (b1 := 0) (L1 := []) ho (fun j b h => by simp at h)
  rwa [nst, List.append_nil] at this
set_option maxHeartbeats 4000000 in
theorem lawFewest_ro (ls : List (List Int)) (bu : Int) (hn : ls.length ≤ 9223372036854775807) (hl : ∀ l ∈ ls, l.length ≤ 9223372036854775807) (k : Nat) :
    RO Try.prog 5 [.dsl 1 (nbL ls), .v (.int .i64 bu)] k (.v (.bool true)) [] k := by
  have hsz := szInt64SS_ro ls hn hl
  refine RO.ofv' Try.func5 Try.ntmps5 rfl (goFn_of Try.func5 rfl (by kernel_rfl)) rfl rfl ?_
  by_cases c2 : szSS ls 1048576 < 0
  · have b2 : decide (szSS ls 1048576 < 0) = true := by simpa using c2
    ((repeat' (first
    | (show SQ _ _ _ _ _ _ _ _; first | apply sq_nil | (apply q_move; exact rfl; exact rfl) | (apply q_assign; exact rfl; exact rfl) | (apply q_lss; exact rfl; exact rfl; exact rfl))
    | (show SQ _ _ _ _ _ _ _ _; (first | (apply q_callU; exact rfl; exact rfl; exact rfl; exact FzL.of rfl; exact hsz _)); (try simp only [put, rowsOf, plR, List.all_cons, selE, ovr, setH, del, cellsA, splice, isV, List.nil_append, List.cons_append, List.map_cons, List.map_nil, List.length_cons, List.length_nil, List.set_cons_zero, List.set_cons_succ, List.take_succ_cons, List.take_zero, List.take_nil, List.drop_succ_cons, List.drop_zero, List.drop_nil, List.append_nil, List.all_cons, List.all_nil, Bool.and_true, Bool.true_and, Bool.and_false, Bool.false_and, Nat.reduceAdd, Nat.zero_add, Nat.add_zero, Nat.reduceEqDiff, if_true, if_false, reduceIte]))
    | (show AW _ _ _ _ _ _ _ _; first | refine aw_region ?_ | (refine aw_seqk ?_; intro K hK) | (apply aw_cond_t; exact rfl; exact (by assumption)) | refine aw_ret ?_)
    | refine thn_n ?_
    | (refine hK _ _ _ ?_; clear hK K)
    | refine thn_r ?_)); all_goals (repeat (clear hK K)))
    all_goals exact fin_r (fin_b rfl rfl)
  have b2 : decide (szSS ls 1048576 < 0) = false := by simpa using c2
  obtain ⟨hS, htot⟩ := szSS_in c2
  obtain ⟨cs, m, e, hcn, hI, hSp⟩ := Fewest_both ls hS bu
  have hml : (cs.map inL).length = cs.length := List.length_map _
  have hT := toInt64SS_ro ls hS
  have hnl := hS.n
  have hNl := niT_len ls
  have hE0 := eqInt64SS_ro ls hS
  have hE1 := eqInt64S_ro cs (by omega)
  have hM0 := markInt64SS_rc 1048579 ls hS (by omega) 1 (by omega) (by omega)
  have hM2 := markInt64S_rc 2097157 cs 1 (by omega) (by omega) (by omega)
  have hH := heldInt64S_ro cs.length 1 (by omega) (by omega) (by omega)
  have z0 : (e != e) = false := by simp
  have z1 : (m != m) = false := by simp
  have z2 : decide (1 + (totN ls : Int) < 0) = false := by simp; omega
  have z3 : decide (1 + (cs.length : Int) < 0) = false := by simp; omega
  have z4 : (1 + (cs.length : Int) != 1 + (cs.length : Int)) = false := by simp
  ((repeat' (first
    | (show SQ _ _ _ _ _ _ _ _; first | apply sq_nil | (apply q_move; exact rfl; exact rfl) | (apply q_assign; exact rfl; exact rfl) | (apply q_lss; exact rfl; exact rfl; exact rfl))
    | (show SQ _ _ _ _ _ _ _ _; (first | (apply q_callU; exact rfl; exact rfl; exact rfl; exact FzL.of rfl; exact hsz _) | (apply q_callU; exact rfl; exact rfl; exact rfl; exact FzL.of rfl; exact hT _)); (try simp only [put, rowsOf, plR, List.all_cons, selE, ovr, setH, del, cellsA, splice, isV, List.nil_append, List.cons_append, List.map_cons, List.map_nil, List.length_cons, List.length_nil, List.set_cons_zero, List.set_cons_succ, List.take_succ_cons, List.take_zero, List.take_nil, List.drop_succ_cons, List.drop_zero, List.drop_nil, List.append_nil, List.all_cons, List.all_nil, Bool.and_true, Bool.true_and, Bool.and_false, Bool.false_and, Nat.reduceAdd, Nat.zero_add, Nat.add_zero, Nat.reduceEqDiff, if_true, if_false, reduceIte]))
    | (show AW _ _ _ _ _ _ _ _; first | refine aw_region ?_ | (refine aw_seqk ?_; intro K hK) | (apply aw_cond_f; exact rfl; exact (by assumption)) | refine aw_skip ?_)
    | refine thn_n ?_
    | (refine hK _ _ _ ?_; clear hK K))); all_goals (repeat (clear hK K)))
  refine q_callU rfl rfl rfl (FzL.cons (fz_ni rfl (.cons (by omega) .here') rfl) (FzL.cons (Fz.of rfl) FzL.nil)) (hSp _) ?_
  refine sq_sub (canon0 (O := [(1048578, ⟨2, 1, true, cs.map inL⟩)]) ⟨rfl, trivial⟩) ?_
  ((repeat' (first
    | (show SQ _ _ _ _ _ _ _ _; first | apply sq_nil | (apply q_move; exact rfl; exact rfl) | (apply q_assign; exact rfl; exact rfl) | (apply q_ext; exact rfl; exact rfl; exact rfl))
    | (show SQ _ _ _ _ _ _ _ _; (first | (apply q_callU; exact rfl; exact rfl; exact rfl; exact FzL.of rfl; exact hT _)); (try simp only [put, rowsOf, plR, List.all_cons, selE, ovr, setH, del, cellsA, splice, isV, List.nil_append, List.cons_append, List.map_cons, List.map_nil, List.length_cons, List.length_nil, List.set_cons_zero, List.set_cons_succ, List.take_succ_cons, List.take_zero, List.take_nil, List.drop_succ_cons, List.drop_zero, List.drop_nil, List.append_nil, List.all_cons, List.all_nil, Bool.and_true, Bool.true_and, Bool.and_false, Bool.false_and, Nat.reduceAdd, Nat.zero_add, Nat.add_zero, Nat.reduceEqDiff, if_true, if_false, reduceIte]))
    | (show AW _ _ _ _ _ _ _ _; first | refine aw_region ?_ | (refine aw_seqk ?_; intro K hK))
    | refine thn_n ?_
    | (refine hK _ _ _ ?_; clear hK K))); all_goals (repeat (clear hK K)))
  refine sq_sub (canon1 (O := [(1048578, ⟨2, 1, true, cs.map inL⟩), (1048579, niB 1048579 ls)]) (b1 := 1048580) (L1 := niT ls) ⟨look_skip (base := 1048580) (bs := niT ls) (by omega), rfl, trivial⟩ (.cons (by omega) .here)) ?_
  refine q_callU rfl rfl rfl (FzL.cons (fz_ni rfl (.cons (by omega) (.cons (by omega) .here')) rfl) (FzL.cons (Fz.of rfl) FzL.nil)) (hI _) ?_
  ((repeat' (first
    | (show SQ _ _ _ _ _ _ _ _; first | apply sq_nil | (apply q_move; exact rfl; exact rfl) | (apply q_assign; exact rfl; exact rfl) | (apply q_pick_f; exact rfl; exact rfl; exact rfl; exact (by first | assumption | exact rfl)) | (apply q_not; exact rfl; exact rfl) | (apply q_ext; exact rfl; exact rfl; exact rfl) | (apply q_neq; exact rfl; exact rfl; exact rfl) | (apply q_g; exact rfl; exact rfl; exact rfl; exact (by assumption)))
    | (show SQ _ _ _ _ _ _ _ _; (first | (apply q_callU; exact rfl; exact rfl; exact rfl; exact FzL.of rfl; exact hT _) | (apply q_callU; exact rfl; exact rfl; exact rfl; rotate_left; exact hE1 _; rotate_right; focus ((repeat' (first | exact FzL.nil | exact (by assumption : FzC _) _ | refine FzL.cons ?_ ?_ | exact Fz.of rfl | exact Fz.nil | exact Fz.emp | (apply Fz.fnC; assumption) | (apply Fz.sl2; exact rfl; exact (by first | omega | (simp; done) | (simp; omega)); first | exact rfl | exact dt_full (by first | omega | (simp; done) | (simp; omega)) | assumption) | apply Fz.agg | (apply Fz.ptrL; exact rfl; first | exact rfl | assumption) | apply Fz.fnL)); done))); (try simp only [put, rowsOf, plR, List.all_cons, selE, ovr, setH, del, cellsA, splice, isV, List.nil_append, List.cons_append, List.map_cons, List.map_nil, List.length_cons, List.length_nil, List.set_cons_zero, List.set_cons_succ, List.take_succ_cons, List.take_zero, List.take_nil, List.drop_succ_cons, List.drop_zero, List.drop_nil, List.append_nil, List.all_cons, List.all_nil, Bool.and_true, Bool.true_and, Bool.and_false, Bool.false_and, Nat.reduceAdd, Nat.zero_add, Nat.add_zero, Nat.reduceEqDiff, if_true, if_false, reduceIte]))
    | (show AW _ _ _ _ _ _ _ _; first | refine aw_region ?_ | (refine aw_seqk ?_; intro K hK) | (apply aw_cond_f; exact rfl; exact (by assumption)) | refine aw_skip ?_)
    | refine thn_n ?_
    | (refine hK _ _ _ ?_; clear hK K))); all_goals (repeat (clear hK K)))
  refine q_callU rfl rfl rfl (FzL.cons (fz_ni (k := 1048579) (ls := ls) (look_skip (bs := niT ls) (base := 2097159) (by omega)) (.cons (by omega) (.skip (by omega) (.cons (by omega) (.cons (by omega) (.cons (by omega) .here'))))) rfl) (FzL.cons (fz_ni rfl (.cons (by omega) .here) rfl) FzL.nil)) (hE0 _) ?_
  refine sq_sub (canon1 (O := [(2097157, ⟨2, 1, true, cs.map inL⟩), (1048578, ⟨2, 1, true, cs.map inL⟩), (1048579, niB 1048579 ls)]) (b1 := 1048580) (L1 := niT ls) ⟨look_skip (base := 2097159) (bs := niT ls) (by omega), look_skip (base := 2097159) (bs := niT ls) (by omega), look_skip (base := 2097159) (bs := niT ls) (by omega), trivial⟩
    (.cons (by omega) (.skip (by omega) (.cons (by omega) (.cons (by omega) (.cons (by omega) .here')))))) ?_
  ((repeat' (first
    | (show SQ _ _ _ _ _ _ _ _; first | apply sq_nil | (apply q_move; exact rfl; exact rfl) | (apply q_assign; exact rfl; exact rfl) | (apply q_not; exact rfl; exact rfl))
    | (show AW _ _ _ _ _ _ _ _; first | refine aw_region ?_ | (refine aw_seqk ?_; intro K hK) | (apply aw_cond_f; exact rfl; exact rfl) | refine aw_skip ?_)
    | refine thn_n ?_
    | (refine hK _ _ _ ?_; clear hK K))); all_goals (repeat (clear hK K)))
  refine q_markN 1048579 ls (mkS 1 ls) [(2097157, ⟨2, 1, true, cs.map inL⟩), (1048578, ⟨2, 1, true, cs.map inL⟩)] rfl rfl rfl (hM0 _) rfl (.cons (by omega) (.cons (by omega) (.cons (by omega) .here'))) (fun i c hc => ?_) ?_
  · have h2 := niT_len (mkS 1 ls)
    have h3 := mkS_len ls 1
    refine .inr ⟨nest_none ?_, canon0 (O := [(2097157, ⟨2, 1, true, cs.map inL⟩), (1048578, ⟨2, 1, true, cs.map inL⟩)]) ⟨rfl, rfl, trivial⟩ i c hc⟩
    rcases List.mem_cons.1 (look_mem hc) with h | h
    · cases h; omega
    · rcases List.mem_cons.1 h with h | h
      · cases h; omega
      · cases h
  ((repeat' (first
    | (show SQ _ _ _ _ _ _ _ _; first | apply sq_nil | (apply q_move; exact rfl; exact rfl) | (apply q_assign; exact rfl; exact rfl) | (apply q_pick_f; exact rfl; exact rfl; exact rfl; exact (by first | assumption | exact rfl)) | (apply q_not; exact rfl; exact rfl) | (apply q_neq; exact rfl; exact rfl; exact rfl) | (apply q_lss; exact rfl; exact rfl; exact rfl) | (apply q_g; exact rfl; exact rfl; exact rfl; exact (by assumption)))
    | (show SQ _ _ _ _ _ _ _ _; (first | (apply q_callU; exact rfl; exact rfl; exact rfl; exact FzL.of rfl; exact hT _) | (apply q_callU; exact rfl; exact rfl; exact rfl; rotate_left; exact hE1 _; rotate_right; focus ((repeat' (first | exact FzL.nil | exact (by assumption : FzC _) _ | refine FzL.cons ?_ ?_ | exact Fz.of rfl | exact Fz.nil | exact Fz.emp | (apply Fz.fnC; assumption) | (apply Fz.sl2; exact rfl; exact (by first | omega | (simp; done) | (simp; omega)); first | exact rfl | exact dt_full (by first | omega | (simp; done) | (simp; omega)) | assumption) | apply Fz.agg | (apply Fz.ptrL; exact rfl; first | exact rfl | assumption) | apply Fz.fnL)); done)) | (apply q_callU; exact rfl; exact rfl; exact rfl; rotate_left; exact hH _; rotate_right; focus ((repeat' (first | exact FzL.nil | exact (by assumption : FzC _) _ | refine FzL.cons ?_ ?_ | exact Fz.of rfl | exact Fz.nil | exact Fz.emp | (apply Fz.fnC; assumption) | (apply Fz.sl2; exact rfl; exact (by first | omega | (simp; done) | (simp; omega)); first | exact rfl | exact dt_full (by first | omega | (simp; done) | (simp; omega)) | assumption) | apply Fz.agg | (apply Fz.ptrL; exact rfl; first | exact rfl | assumption) | apply Fz.fnL)); done)) | (apply q_callC; exact rfl; exact rfl; exact rfl; exact hM2 _; (focus ((repeat (first | exact trivial | refine ⟨by first | exact rfl | assumption, ?_⟩)); done)); skip)); (try simp only [put, rowsOf, plR, List.all_cons, selE, ovr, setH, del, cellsA, splice, isV, List.nil_append, List.cons_append, List.map_cons, List.map_nil, List.length_cons, List.length_nil, List.set_cons_zero, List.set_cons_succ, List.take_succ_cons, List.take_zero, List.take_nil, List.drop_succ_cons, List.drop_zero, List.drop_nil, List.append_nil, List.all_cons, List.all_nil, Bool.and_true, Bool.true_and, Bool.and_false, Bool.false_and, Nat.reduceAdd, Nat.zero_add, Nat.add_zero, Nat.reduceEqDiff, if_true, if_false, reduceIte]))
    | (show AW _ _ _ _ _ _ _ _; first | refine aw_region ?_ | (refine aw_seqk ?_; intro K hK) | (apply aw_cond_f; exact rfl; exact rfl) | (apply aw_cond_f; exact rfl; exact (by assumption)) | refine aw_skip ?_)
    | refine thn_n ?_
    | (refine hK _ _ _ ?_; clear hK K))); all_goals (repeat (clear hK K)))
  refine q_callU rfl rfl rfl (FzL.cons (fz_ni rfl (.cons (by omega) .here) rfl) (FzL.cons (Fz.of rfl) FzL.nil)) (hI _) ?_
  refine sq_sub (canon0 (O := [(4194314, ⟨2, 1, true, cs.map inL⟩), (2097157, ⟨2, 1, true, ((List.range cs.length).map (up 1)).map inL⟩), (1048578, ⟨2, 1, true, cs.map inL⟩)]) ⟨rfl, look_skip (base := 3145737) (bs := niT ls) (by omega), look_skip (base := 3145737) (bs := niT ls) (by omega), trivial⟩) ?_
  have hml2 : (((List.range cs.length).map (up 1)).map inL).length = cs.length := by simp
  ((repeat' (first
    | (show SQ _ _ _ _ _ _ _ _; first | apply sq_nil | (apply q_move; exact rfl; exact rfl) | (apply q_assign; exact rfl; exact rfl) | (apply q_pick_f; exact rfl; exact rfl; exact rfl; exact (by first | assumption | exact rfl)) | (apply q_not; exact rfl; exact rfl) | (apply q_ext; exact rfl; exact rfl; exact rfl) | (apply q_neq; exact rfl; exact rfl; exact rfl) | (apply q_lss; exact rfl; exact rfl; exact rfl) | (apply q_g; exact rfl; exact rfl; exact rfl; exact (by assumption)))
    | (show SQ _ _ _ _ _ _ _ _; (first | (apply q_callU; exact rfl; exact rfl; exact rfl; rotate_left; exact hE1 _; rotate_right; focus ((repeat' (first | exact FzL.nil | exact (by assumption : FzC _) _ | refine FzL.cons ?_ ?_ | exact Fz.of rfl | exact Fz.nil | exact Fz.emp | (apply Fz.fnC; assumption) | (apply Fz.sl2; exact rfl; exact (by first | omega | (simp; done) | (simp; omega)); first | exact rfl | exact dt_full (by first | omega | (simp; done) | (simp; omega)) | assumption) | apply Fz.agg | (apply Fz.ptrL; exact rfl; first | exact rfl | assumption) | apply Fz.fnL)); done)) | (apply q_callU; exact rfl; exact rfl; exact rfl; rotate_left; exact hH _; rotate_right; focus ((repeat' (first | exact FzL.nil | exact (by assumption : FzC _) _ | refine FzL.cons ?_ ?_ | exact Fz.of rfl | exact Fz.nil | exact Fz.emp | (apply Fz.fnC; assumption) | (apply Fz.sl2; exact rfl; exact (by first | omega | (simp; done) | (simp; omega)); first | exact rfl | exact dt_full (by first | omega | (simp; done) | (simp; omega)) | assumption) | apply Fz.agg | (apply Fz.ptrL; exact rfl; first | exact rfl | assumption) | apply Fz.fnL)); done))); (try simp only [put, rowsOf, plR, List.all_cons, selE, ovr, setH, del, cellsA, splice, isV, List.nil_append, List.cons_append, List.map_cons, List.map_nil, List.length_cons, List.length_nil, List.set_cons_zero, List.set_cons_succ, List.take_succ_cons, List.take_zero, List.take_nil, List.drop_succ_cons, List.drop_zero, List.drop_nil, List.append_nil, List.all_cons, List.all_nil, Bool.and_true, Bool.true_and, Bool.and_false, Bool.false_and, Nat.reduceAdd, Nat.zero_add, Nat.add_zero, Nat.reduceEqDiff, if_true, if_false, reduceIte]))
    | (show AW _ _ _ _ _ _ _ _; first | refine aw_region ?_ | (refine aw_seqk ?_; intro K hK) | (apply aw_cond_f; exact rfl; exact rfl) | (apply aw_cond_f; exact rfl; exact (by assumption)) | refine aw_ret ?_ | refine aw_skip ?_)
    | refine thn_n ?_
    | (refine hK _ _ _ ?_; clear hK K))); all_goals (repeat (clear hK K)))
  all_goals exact fin_r (fin_b rfl rfl)
theorem closeFewest (v v1 : Value) (w : World) (h : Fr.IsIntss w v) (h1 : Fr.IsInt w v1) : Calls Try.prog 5 #[v, v1] w fun r w' => r = .returned (.bool true) ∧ Below w.heap.size w w' := by
  obtain ⟨ls, hv, hn, hl⟩ := h
  obtain ⟨bu, rfl, _⟩ := h1
  exact RO.calls (k := 0) (lawFewest_ro ls bu hn hl 0) (K := fun k => k < w.heap.size) (fun _ h => h) (VRs.cons hv (VRs.cons (.v _ _) VRs.nil))
end Go.Proofs.Yteknfaldpajlpaa.Nb
