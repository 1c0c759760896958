/-
  What the law FnRepair rests on, part 4.
-/
import Derived.Test.YteknfaldpajlpaaZFnRepair3
namespace Go.Proofs.Yteknfaldpajlpaa.Nb
open Go Go.RowKit Go.Proofs.Yteknfaldpajlpaa.Aw Go.Proofs.Yteknfaldpajlpaa.In Go.Proofs.Yteknfaldpajlpaa.Il
set_option linter.unusedSimpArgs false
set_option linter.unusedVariables false
set_option linter.unusedSectionVars false
attribute [local irreducible] AW SQ Step RO RC DE Thn InB
structure Snd (ds ap : List (List Int)) (list frz : List Int) : Prop where
  hS : NbS ds
  hA : NbS ap
  n : ds.length ≤ 24
  a : ap.length = ds.length
  l : list.length = ds.length
  rows : ∀ i, i < ap.length → (ap.getD i []).length = ds.length
  dom : ∀ d ∈ ds, d.length ≤ 32 ∧ ∀ x ∈ d, 0 ≤ x ∧ x ≤ 999
  st : ∀ x ∈ list, 0 ≤ x ∧ x ≤ 999
  fz : frz.length ≤ 1048576
set_option maxHeartbeats 4000000 in
theorem extend_rc (ds ap : List (List Int)) (list frz : List Int) (hP : Snd ds ap list frz) : ∀ (r : Nat) (left : Int) (st : Rs), r ≤ list.length → 0 ≤ left → left ≤ 100 → 0 ≤ st.1 → st.1 ≤ 20000 → list.length - r ≤ st.2.length → (r = 0 → st.2.length = list.length) → (∀ x ∈ st.2.take (list.length - r), 0 ≤ x ∧ x ≤ 999) → ∀ b c : Nat, b ≠ c → ∀ k,
    RC Try.prog 70 [.ptr b 0 0, .v (.int .i64 left)] [(b, ⟨92, 6, false, rsR ds ap list frz st.1 c (list.length - r)⟩), (c, ⟨2, 1, true, st.2.map inL⟩)] k (.v (.bool (repF ds ap list frz r left st).1))
      [(b, some ⟨92, 6, false, rsR ds ap list frz (repF ds ap list frz r left st).2.1 k (if (repF ds ap list frz r left st).1 = true then list.length else list.length - r)⟩), (c, none), (k, some ⟨2, 1, true, (repF ds ap list frz r left st).2.2.map inL⟩)] (k + 1)
  | 0, left, st, hr, l0, l1, s0, s1, hl, h0, hv, b, c, hbc, k => by
    have hll : (list.map inL).length = list.length := List.length_map _
    have b1 : (((list.length - 0 : Nat) : Int) == ((list.map inL).length : Int)) = true := by rw [hll]; simp
    show RC Try.prog _ _ _ k (.v (.bool true)) [(b, some ⟨92, 6, false, rsR ds ap list frz st.1 k list.length⟩), (c, none), (k, some ⟨2, 1, true, st.2.map inL⟩)] (k + 1)
    unfold rsR
    refine RC.ofc [b, c] 1 [.ptr 0 0 0, .v (.int .i64 left)] [(0, ⟨92, 6, false, [[.dsl 1 (nbL ds), .dsl 1 (nbL ap), .dsl 1 (list.map inL), .dsl 1 (frz.map inL), .v (.int .i64 st.1), .sl 1 0 (list.length - 0)]]⟩), (1, ⟨2, 1, true, st.2.map inL⟩)] (.v (.bool true)) [(0, some ⟨92, 6, false, [[.dsl 1 (nbL ds), .dsl 1 (nbL ap), .dsl 1 (list.map inL), .dsl 1 (frz.map inL), .v (.int .i64 st.1), .sl 2 0 list.length]]⟩), (1, none), (2, some ⟨2, 1, true, st.2.map inL⟩)] Try.func70 Try.ntmps70 rfl (goFn_of Try.func70 rfl (by kernel_rfl)) rfl rfl rfl rfl rfl rfl rfl rfl (by simp_all) rfl ?_
    ((repeat' (first
    | (show SQ _ _ _ _ _ _ _ _; first | apply sq_nil | (apply q_move; exact rfl; exact rfl) | (apply q_assign; exact rfl; exact rfl) | (apply q_fieldAddr; exact rfl; exact rfl; exact (ty rfl); exact rfl; exact rfl; exact rfl; exact rfl) | (apply q_nilc; exact rfl; exact rfl; exact rfl) | (apply q_lend; exact rfl; exact rfl; exact (ty rfl); exact rfl) | (apply q_lenl; exact rfl; exact rfl; exact (ty rfl); exact rfl) | (apply q_eql; exact rfl; exact rfl; exact rfl) | (apply q_ld1p; exact rfl; exact rfl; exact (ty rfl); exact rfl; exact rfl; exact (by first | rfl | assumption | ((try simp only [Nat.zero_add]); refine List.getElem?_set_self ?_; (try simp only [List.length_set]); assumption)); exact rfl))
    | (show AW _ _ _ _ _ _ _ _; first | refine aw_region ?_ | (refine aw_seqk ?_; intro K hK) | (apply aw_cond_t; exact rfl; exact (by assumption)) | refine aw_ret ?_)
    | refine thn_n ?_
    | (refine hK _ _ _ ?_; clear hK K)
    | refine thn_r ?_)); all_goals (repeat (clear hK K)))
    all_goals exact finc (mv 2 1) (.r1 _ _ (.tmp _ _ rfl)) rfl (fun z hz => by simp at hz; simp [mv]; omega) ⟨rfl, rfl, trivial⟩ rfl
  | r + 1, left, st, hr, l0, l1, s0, s1, hl, h0, hv, b, c, hbc, k => by
    have ih := extend_rc ds ap list frz hP r
    have hkp := fun q1 q2 q3 q4 q5 => repF_keep (ds := ds) (ap := ap) (list := list) (frz := frz) r q1 q2 q3 q4 q5
    have hll : (list.map inL).length = list.length := List.length_map _
    have hN := hP.n
    have hL := hP.l
    have hAl := hP.a
    have b1 : (((list.length - (r + 1) : Nat) : Int) == ((list.map inL).length : Int)) = false := by rw [hll]; simp only [beq_eq_false_iff_ne, ne_eq]; omega
    generalize hQQ : repF ds ap list frz (r + 1) left st = Q
    unfold repF at hQQ
    generalize hitem : list.length - (r + 1) = item at *
    have hlen1 : list.length - r = item + 1 := by omega
    rw [hlen1] at ih hkp
    have hil : item < list.length := by omega
    have hid : item < ds.length := by omega
    have hK : ∀ left st', 0 ≤ st'.1 → st'.2.length = item + 1 → RpK list.length (item + 1) st' (repF ds ap list frz r left st') := fun q1 q2 q3 q4 => hkp q1 q2 (by omega) q3 (by omega) (fun e => by omega)
    have hT := try_rc ds ap list frz hP.hA (repF ds ap list frz r) list.length item (by omega) (by rw [hP.rows item (by omega)]; omega) (by omega) hK
      (fun q1 q2 m0 m1 m2 m3 m4 m5 b c hbc k => ih q1 q2 (by omega) m0 m1 m2 m3 (by omega) (fun e => by omega) (by rw [List.take_of_length_le (by omega)]; exact m5) b c hbc k)
    have hTk := fun ch lf (st' : Rs) (g1 : item ≤ st'.2.length) (g2 : -1 ≤ st'.1) => tryF_keep (ap := ap) (ch := ch) (left := lf) g1 g2 hK
    clear ih hkp
    have hdg : ds.getD item [] = ds[item] := by simp [List.getD, hid]
    have hlg : list.getD item 0 = list[item] := by simp [List.getD, hil]
    rw [hdg, hlg] at hQQ
    obtain ⟨hd32, hdv⟩ := hP.dom _ (List.getElem_mem hid)
    have hbv := hP.st _ (List.getElem_mem hil)
    have hrl : (list.map inL)[((item : Int)).toNat]? = some (inL list[item]) := by simp [hil]
    rw [inL_eq] at hrl
    have hrd := nbL_get hid
    have hdl := nbL_len ds
    generalize ds[item] = dom at *
    generalize list[item] = before at *
    have hdml : (dom.map inL).length = dom.length := List.length_map _
    have hC1 := slContains_ro dom (dom.map inL) before rfl (by omega)
    have hC2 := slContains_ro frz (frz.map inL) (item : Int) rfl hP.fz
    generalize repF ds ap list frz r = nxt at *
    unfold fstF at hQQ
    generalize (dom.any fun y => y == before) = u1 at *
    generalize (frz.any fun y => y == (item : Int)) = u2 at *
    unfold rsR at *
    refine RC.ofc [b, c] 1 [.ptr 0 0 0, .v (.int .i64 left)] [(0, ⟨92, 6, false, [[.dsl 1 (nbL ds), .dsl 1 (nbL ap), .dsl 1 (list.map inL), .dsl 1 (frz.map inL), .v (.int .i64 st.1), .sl 1 0 item]]⟩), (1, ⟨2, 1, true, st.2.map inL⟩)] (.v (.bool Q.1)) [(0, some ⟨92, 6, false, [[.dsl 1 (nbL ds), .dsl 1 (nbL ap), .dsl 1 (list.map inL), .dsl 1 (frz.map inL), .v (.int .i64 Q.2.1), .sl 2 0 (if Q.1 = true then list.length else item)]]⟩), (1, none), (2, some ⟨2, 1, true, Q.2.2.map inL⟩)] Try.func70 Try.ntmps70 rfl (goFn_of Try.func70 rfl (by kernel_rfl)) rfl rfl rfl rfl rfl rfl rfl rfl (by simp_all) rfl ?_
    cases u1 with
    | false =>
      simp only [Bool.false_eq_true, if_false] at hQQ
      cases hu : (u2 || left == 0) with
      | true =>
        rw [if_pos hu] at hQQ
        subst hQQ
        cases u2 with
        | true =>
          ((repeat' (first
    | (show SQ _ _ _ _ _ _ _ _; first | apply sq_nil | (apply q_move; exact rfl; exact rfl) | (apply q_assign; exact rfl; exact rfl) | (apply q_pick_t; exact rfl; exact rfl; exact rfl; exact (by first | assumption | exact rfl)) | (apply q_pick_f; exact rfl; exact rfl; exact rfl; exact (by first | assumption | exact rfl)) | (apply q_fieldAddr; exact rfl; exact rfl; exact (ty rfl); exact rfl; exact rfl; exact rfl; exact rfl) | (apply q_nilc; exact rfl; exact rfl; exact rfl) | (apply q_lend; exact rfl; exact rfl; exact (ty rfl); exact rfl) | (apply q_lenl; exact rfl; exact rfl; exact (ty rfl); exact rfl) | (apply q_eql; exact rfl; exact rfl; exact rfl) | (apply q_ld1p; exact rfl; exact rfl; exact (ty rfl); exact rfl; exact rfl; exact (by first | rfl | assumption | ((try simp only [Nat.zero_add]); refine List.getElem?_set_self ?_; (try simp only [List.length_set]); assumption)); exact rfl) | (apply q_s; exact rfl; exact rfl; exact rfl; exact (by assumption); exact rfl) | (apply q_s; exact rfl; exact rfl; exact rfl; exact rfl; exact rfl))
    | (show SQ _ _ _ _ _ _ _ _; (first | (apply q_callU; exact rfl; exact rfl; exact rfl; exact FzL.of rfl; exact hC1 _) | (apply q_callU; exact rfl; exact rfl; exact rfl; exact FzL.of rfl; exact hC2 _)); (try simp only [put, rowsOf, plR, List.all_cons, selE, ovr, setH, del, cellsA, splice, isV, List.nil_append, List.cons_append, List.map_cons, List.map_nil, List.length_cons, List.length_nil, List.set_cons_zero, List.set_cons_succ, List.take_succ_cons, List.take_zero, List.take_nil, List.drop_succ_cons, List.drop_zero, List.drop_nil, List.append_nil, List.all_cons, List.all_nil, Bool.and_true, Bool.true_and, Bool.and_false, Bool.false_and, Nat.reduceAdd, Nat.zero_add, Nat.add_zero, Nat.reduceEqDiff, if_true, if_false, reduceIte]))
    | (show DE _ _ _ _ _ _ _ _ _ _ _ _; first | (apply e_move; exact rfl; exact rfl; exact rfl) | (apply e_assign; exact rfl; exact rfl; exact rfl) | (apply e_fieldAddr; exact rfl; exact rfl; exact (ty rfl); exact rfl; exact rfl; exact rfl; exact rfl; exact rfl) | (apply e_nilc; exact rfl; exact rfl; exact rfl; exact rfl) | (apply e_ixd; exact rfl; exact rfl; exact rfl; exact (ty rfl); exact rfl; exact (by first | omega | (simp; done) | (simp; omega)); exact (by first | omega | (simp; done) | (simp; omega)); exact (by first | rfl | assumption); exact rfl) | (apply e_ld1d; exact rfl; exact rfl; exact (ty rfl); exact rfl; exact rfl; exact rfl) | (apply e_ld1p; exact rfl; exact rfl; exact (ty rfl); exact rfl; exact rfl; exact (by first | rfl | assumption | ((try simp only [Nat.zero_add]); refine List.getElem?_set_self ?_; (try simp only [List.length_set]); assumption)); exact rfl; exact rfl))
    | (show DE _ _ _ _ _ _ _ _ _ _ _ _; (first | (apply dr_nil; exact trivial)); (try simp only [put, rowsOf, plR, List.all_cons, selE, ovr, setH, del, cellsA, splice, isV, List.nil_append, List.cons_append, List.map_cons, List.map_nil, List.length_cons, List.length_nil, List.set_cons_zero, List.set_cons_succ, List.take_succ_cons, List.take_zero, List.take_nil, List.drop_succ_cons, List.drop_zero, List.drop_nil, List.append_nil, List.all_cons, List.all_nil, Bool.and_true, Bool.true_and, Bool.and_false, Bool.false_and, Nat.reduceAdd, Nat.zero_add, Nat.add_zero, Nat.reduceEqDiff, if_true, if_false, reduceIte]))
    | (show AW _ _ _ _ _ _ _ _; first | refine aw_region ?_ | (refine aw_seqk ?_; intro K hK) | (apply aw_cond_t; exact rfl; exact rfl) | (apply aw_cond_f; exact rfl; exact rfl) | (apply aw_cond_f; exact rfl; exact (by assumption)) | refine aw_ret ?_ | refine aw_skip ?_ | refine aw_drawE (id := 4) [0, 1, 3, 7, 0, 31, 63, 0, 128, 384, 896, 1920, 0, 8064, 16256, 127, 65535] [0, 0, 0, 1, 0, 0, 1, 0, 0, 0, 0, 1, 0, 0, 1, 0, 0] mixed (by kernel_rfl) ?_)
    | refine thn_n ?_
    | (refine hK _ _ _ ?_; clear hK K)
    | refine thn_r ?_)); all_goals (repeat (clear hK K)))
          all_goals exact finc (mv 2 1) (.r1 _ _ (.tmp _ _ rfl)) rfl (fun z hz => by simp at hz; simp [mv]; omega) ⟨rfl, rfl, trivial⟩ rfl
        | false =>
          have hz0 : (left == 0) = true := by simpa using hu
          ((repeat' (first
    | (show SQ _ _ _ _ _ _ _ _; first | apply sq_nil | (apply q_move; exact rfl; exact rfl) | (apply q_assign; exact rfl; exact rfl) | (apply q_pick_f; exact rfl; exact rfl; exact rfl; exact (by first | assumption | exact rfl)) | (apply q_fieldAddr; exact rfl; exact rfl; exact (ty rfl); exact rfl; exact rfl; exact rfl; exact rfl) | (apply q_nilc; exact rfl; exact rfl; exact rfl) | (apply q_lend; exact rfl; exact rfl; exact (ty rfl); exact rfl) | (apply q_lenl; exact rfl; exact rfl; exact (ty rfl); exact rfl) | (apply q_eql; exact rfl; exact rfl; exact rfl) | (apply q_ld1p; exact rfl; exact rfl; exact (ty rfl); exact rfl; exact rfl; exact (by first | rfl | assumption | ((try simp only [Nat.zero_add]); refine List.getElem?_set_self ?_; (try simp only [List.length_set]); assumption)); exact rfl) | (apply q_g; exact rfl; exact rfl; exact rfl; exact rfl) | (apply q_s; exact rfl; exact rfl; exact rfl; exact rfl; exact rfl))
    | (show SQ _ _ _ _ _ _ _ _; (first | (apply q_callU; exact rfl; exact rfl; exact rfl; exact FzL.of rfl; exact hC1 _) | (apply q_callU; exact rfl; exact rfl; exact rfl; exact FzL.of rfl; exact hC2 _)); (try simp only [put, rowsOf, plR, List.all_cons, selE, ovr, setH, del, cellsA, splice, isV, List.nil_append, List.cons_append, List.map_cons, List.map_nil, List.length_cons, List.length_nil, List.set_cons_zero, List.set_cons_succ, List.take_succ_cons, List.take_zero, List.take_nil, List.drop_succ_cons, List.drop_zero, List.drop_nil, List.append_nil, List.all_cons, List.all_nil, Bool.and_true, Bool.true_and, Bool.and_false, Bool.false_and, Nat.reduceAdd, Nat.zero_add, Nat.add_zero, Nat.reduceEqDiff, if_true, if_false, reduceIte]))
    | (show DE _ _ _ _ _ _ _ _ _ _ _ _; first | (apply e_move; exact rfl; exact rfl; exact rfl) | (apply e_assign; exact rfl; exact rfl; exact rfl) | (apply e_fieldAddr; exact rfl; exact rfl; exact (ty rfl); exact rfl; exact rfl; exact rfl; exact rfl; exact rfl) | (apply e_nilc; exact rfl; exact rfl; exact rfl; exact rfl) | (apply e_ixd; exact rfl; exact rfl; exact rfl; exact (ty rfl); exact rfl; exact (by first | omega | (simp; done) | (simp; omega)); exact (by first | omega | (simp; done) | (simp; omega)); exact (by first | rfl | assumption); exact rfl) | (apply e_ld1d; exact rfl; exact rfl; exact (ty rfl); exact rfl; exact rfl; exact rfl) | (apply e_ld1p; exact rfl; exact rfl; exact (ty rfl); exact rfl; exact rfl; exact (by first | rfl | assumption | ((try simp only [Nat.zero_add]); refine List.getElem?_set_self ?_; (try simp only [List.length_set]); assumption)); exact rfl; exact rfl))
    | (show DE _ _ _ _ _ _ _ _ _ _ _ _; (first | (apply dr_nil; exact trivial)); (try simp only [put, rowsOf, plR, List.all_cons, selE, ovr, setH, del, cellsA, splice, isV, List.nil_append, List.cons_append, List.map_cons, List.map_nil, List.length_cons, List.length_nil, List.set_cons_zero, List.set_cons_succ, List.take_succ_cons, List.take_zero, List.take_nil, List.drop_succ_cons, List.drop_zero, List.drop_nil, List.append_nil, List.all_cons, List.all_nil, Bool.and_true, Bool.true_and, Bool.and_false, Bool.false_and, Nat.reduceAdd, Nat.zero_add, Nat.add_zero, Nat.reduceEqDiff, if_true, if_false, reduceIte]))
    | (show AW _ _ _ _ _ _ _ _; first | refine aw_region ?_ | (refine aw_seqk ?_; intro K hK) | (apply aw_cond_f; exact rfl; exact rfl) | (apply aw_cond_t; exact rfl; exact (by assumption)) | (apply aw_cond_f; exact rfl; exact (by assumption)) | refine aw_ret ?_ | refine aw_skip ?_ | refine aw_drawE (id := 4) [0, 1, 3, 7, 0, 31, 63, 0, 128, 384, 896, 1920, 0, 8064, 16256, 127, 65535] [0, 0, 0, 1, 0, 0, 1, 0, 0, 0, 0, 1, 0, 0, 1, 0, 0] mixed (by kernel_rfl) ?_)
    | refine thn_n ?_
    | (refine hK _ _ _ ?_; clear hK K)
    | refine thn_r ?_)); all_goals (repeat (clear hK K)))
          all_goals exact finc (mv 2 1) (.r1 _ _ (.tmp _ _ rfl)) rfl (fun z hz => by simp at hz; simp [mv]; omega) ⟨rfl, rfl, trivial⟩ rfl
      | false =>
        rw [if_neg (by rw [hu]; simp)] at hQQ
        obtain ⟨rfl, hz0⟩ : u2 = false ∧ (left == 0) = false := by simpa [Bool.or_eq_false_iff] using hu
        have hl1 : 1 ≤ left := by have := beq_eq_false_iff_ne.1 hz0; omega
        ((repeat' (first
    | (show SQ _ _ _ _ _ _ _ _; first | apply sq_nil | (apply q_move; exact rfl; exact rfl) | (apply q_assign; exact rfl; exact rfl) | (apply q_pick_f; exact rfl; exact rfl; exact rfl; exact (by first | assumption | exact rfl)) | (apply q_fieldAddr; exact rfl; exact rfl; exact (ty rfl); exact rfl; exact rfl; exact rfl; exact rfl) | (apply q_nilc; exact rfl; exact rfl; exact rfl) | (apply q_lend; exact rfl; exact rfl; exact (ty rfl); exact rfl) | (apply q_lenl; exact rfl; exact rfl; exact (ty rfl); exact rfl) | (apply q_eql; exact rfl; exact rfl; exact rfl) | (apply q_ld1p; exact rfl; exact rfl; exact (ty rfl); exact rfl; exact rfl; exact (by first | rfl | assumption | ((try simp only [Nat.zero_add]); refine List.getElem?_set_self ?_; (try simp only [List.length_set]); assumption)); exact rfl) | (apply q_g; exact rfl; exact rfl; exact rfl; exact rfl) | (apply q_s; exact rfl; exact rfl; exact rfl; exact rfl; exact rfl))
    | (show SQ _ _ _ _ _ _ _ _; (first | (apply q_callU; exact rfl; exact rfl; exact rfl; exact FzL.of rfl; exact hC1 _) | (apply q_callU; exact rfl; exact rfl; exact rfl; exact FzL.of rfl; exact hC2 _)); (try simp only [put, rowsOf, plR, List.all_cons, selE, ovr, setH, del, cellsA, splice, isV, List.nil_append, List.cons_append, List.map_cons, List.map_nil, List.length_cons, List.length_nil, List.set_cons_zero, List.set_cons_succ, List.take_succ_cons, List.take_zero, List.take_nil, List.drop_succ_cons, List.drop_zero, List.drop_nil, List.append_nil, List.all_cons, List.all_nil, Bool.and_true, Bool.true_and, Bool.and_false, Bool.false_and, Nat.reduceAdd, Nat.zero_add, Nat.add_zero, Nat.reduceEqDiff, if_true, if_false, reduceIte]))
    | (show DE _ _ _ _ _ _ _ _ _ _ _ _; first | (apply e_move; exact rfl; exact rfl; exact rfl) | (apply e_assign; exact rfl; exact rfl; exact rfl) | (apply e_fieldAddr; exact rfl; exact rfl; exact (ty rfl); exact rfl; exact rfl; exact rfl; exact rfl; exact rfl) | (apply e_nilc; exact rfl; exact rfl; exact rfl; exact rfl) | (apply e_ixd; exact rfl; exact rfl; exact rfl; exact (ty rfl); exact rfl; exact (by first | omega | (simp; done) | (simp; omega)); exact (by first | omega | (simp; done) | (simp; omega)); exact (by first | rfl | assumption); exact rfl) | (apply e_ld1d; exact rfl; exact rfl; exact (ty rfl); exact rfl; exact rfl; exact rfl) | (apply e_ld1p; exact rfl; exact rfl; exact (ty rfl); exact rfl; exact rfl; exact (by first | rfl | assumption | ((try simp only [Nat.zero_add]); refine List.getElem?_set_self ?_; (try simp only [List.length_set]); assumption)); exact rfl; exact rfl))
    | (show DE _ _ _ _ _ _ _ _ _ _ _ _; (first | (apply dr_nil; exact trivial)); (try simp only [put, rowsOf, plR, List.all_cons, selE, ovr, setH, del, cellsA, splice, isV, List.nil_append, List.cons_append, List.map_cons, List.map_nil, List.length_cons, List.length_nil, List.set_cons_zero, List.set_cons_succ, List.take_succ_cons, List.take_zero, List.take_nil, List.drop_succ_cons, List.drop_zero, List.drop_nil, List.append_nil, List.all_cons, List.all_nil, Bool.and_true, Bool.true_and, Bool.and_false, Bool.false_and, Nat.reduceAdd, Nat.zero_add, Nat.add_zero, Nat.reduceEqDiff, if_true, if_false, reduceIte]))
    | (show AW _ _ _ _ _ _ _ _; first | refine aw_region ?_ | (refine aw_seqk ?_; intro K hK) | refine aw_block ?_ | (apply aw_cond_f; exact rfl; exact rfl) | (apply aw_cond_f; exact rfl; exact (by assumption)) | refine aw_skip ?_ | refine aw_drawE (id := 4) [0, 1, 3, 7, 0, 31, 63, 0, 128, 384, 896, 1920, 0, 8064, 16256, 127, 65535] [0, 0, 0, 1, 0, 0, 1, 0, 0, 0, 0, 1, 0, 0, 1, 0, 0] mixed (by kernel_rfl) ?_)
    | refine thn_n ?_
    | (refine hK _ _ _ ?_; clear hK K))); all_goals (repeat (clear hK K)))
        show AW _ _ 2 _ _ _ _ _
        refine aw_loop (ρ := mv 2 1) (ι := Nat × Rs) (fun s => ([(59, .v (.int .i64 s.1)), (58, .v (.int .i64 dom.length)), (57, .dsl 1 (dom.map inL)), (6, .v (.int .i64 before)), (5, .v (.int .i64 item)), (1, .v (.int .i64 left)), (0, .ptr 0 0 0)],
            [(0, ⟨92, 6, false, [[.dsl 1 (nbL ds), .dsl 1 (nbL ap), .dsl 1 (list.map inL), .dsl 1 (frz.map inL), .v (.int .i64 s.2.1), .sl 2 0 item]]⟩), (2, ⟨2, 1, true, s.2.2.map inL⟩)], 3))
          (fun s => s.1 ≤ dom.length ∧ -1 ≤ s.2.1 ∧ s.2.1 ≤ 20000 ∧ item ≤ s.2.2.length ∧ (∀ x ∈ s.2.2.take item, 0 ≤ x ∧ x ≤ 999) ∧ domF nxt ap item before left (dom.drop s.1) s.2 = Q) (fun s => dom.length - s.1) (0, st) ⟨Nat.zero_le _, by dsimp only; omega, s1, hl, hv, by rw [List.drop_zero]; exact hQQ⟩ ⟨by (repeat (refine ⟨by first | exact lk_i rfl rfl | exact lk_i rfl (by (try dsimp only); first | rfl | omega | (rw [IntWalk.i64_in _ (by omega)]; first | rfl | omega | (push_cast; omega)) | (simp; done) | (simp; omega)) | exact lk_d rfl rfl | exact lk_r rfl rfl rfl, ?_⟩)); exact trivial, by (repeat (refine ⟨by first | exact ⟨rfl, rfl, rfl⟩, ?_⟩)); exact trivial, by rfl, by (intro i hi; (try dsimp only); refine ⟨?_, ?_⟩ <;> first | rfl | omega | (simp [mv]; omega))⟩ ?_
        rintro ⟨j, b2, bf⟩ ⟨hj, t0, t1, tl, tv, hg⟩
        dsimp only at hj t0 t1 tl tv hg
        by_cases c1 : j < dom.length
        · have d1 : decide ((j : Int) < (dom.length : Int)) = true := by simpa using c1
          have hw : IntKind.i64.wrap ((j : Int) + 1) = ((j + 1 : Nat) : Int) := by rw [IntWalk.i64_in _ (by omega)]; omega
          have hrj : (dom.map inL)[((j : Int)).toNat]? = some (inL dom[j]) := by simp [c1]
          rw [inL_eq] at hrj
          have hcv := hdv _ (List.getElem_mem c1)
          rw [List.drop_eq_getElem_cons c1, domF] at hg
          generalize dom[j] = cc at *
          by_cases c2 : cc = before
          · have d2 : (cc != before) = false := by simpa using c2
            rw [if_pos c2] at hg
            ((repeat' (first
    | (show SQ _ _ _ _ _ _ _ _; first | apply sq_nil | (apply q_move; exact rfl; exact rfl) | (apply q_assign; exact rfl; exact rfl) | (apply q_pick_f; exact rfl; exact rfl; exact rfl; exact (by first | assumption | exact rfl)) | (apply q_add; exact rfl; exact rfl; exact rfl) | (apply q_neq; exact rfl; exact rfl; exact rfl) | (apply q_lss; exact rfl; exact rfl; exact rfl) | (apply q_ixd; exact rfl; exact rfl; exact rfl; exact (ty rfl); exact rfl; exact (by first | omega | (simp; done) | (simp; omega)); exact (by first | omega | (simp; done) | (simp; omega)); exact (by first | rfl | assumption)) | (apply q_ld1d; exact rfl; exact rfl; exact (ty rfl); exact rfl; exact rfl) | (apply q_s; exact rfl; exact rfl; exact rfl; exact (by assumption); exact rfl))
    | (show AW _ _ _ _ _ _ _ _; first | refine aw_region ?_ | (refine aw_seqk ?_; intro K hK) | refine aw_block ?_ | (apply aw_cond_f; exact rfl; exact rfl) | (apply aw_cond_t; exact rfl; exact (by assumption)) | refine aw_skip ?_)
    | refine thn_n ?_
    | (refine hK _ _ _ ?_; clear hK K)
    | refine inb_n ?_)); all_goals (repeat (clear hK K)))
            all_goals (refine ⟨(j + 1, (b2, bf)), id, ⟨c1, t0, t1, tl, tv, hg⟩, by dsimp only; omega, ?_⟩; (try dsimp only); rw [← hw]; exact ⟨by (repeat (refine ⟨by first | exact lk_i rfl rfl | exact lk_d rfl rfl | exact lk_r rfl rfl rfl, ?_⟩)); exact trivial, by (repeat (refine ⟨by first | exact ⟨rfl, rfl, rfl⟩, ?_⟩)); exact trivial, by rfl, by (intro i hi; (try dsimp only); refine ⟨?_, ?_⟩ <;> first | rfl | omega | (simp at hi; omega) | (simp; omega))⟩)
          · have d2 : (cc != before) = true := by simpa using c2
            rw [if_neg c2] at hg
            have hwl : IntKind.i64.wrap (left - 1) = left - 1 := IntWalk.i64_in _ (by omega)
            rw [← hwl] at hg
            have hii := hT cc (IntKind.i64.wrap (left - 1)) (b2, bf) hcv (by rw [hwl]; omega) (by rw [hwl]; omega) t0 t1 tl tv 0 2 (by decide)
            have hkk := hTk cc (IntKind.i64.wrap (left - 1)) (b2, bf) tl t0
            generalize tryF nxt ap item cc (IntKind.i64.wrap (left - 1)) (b2, bf) = q at *
            obtain ⟨qo, qb, qf⟩ := q
            have kl := hkk.le
            have kb := hkk.bud
            have klo := hkk.lo
            have kk := hkk.keep
            dsimp only at hg hii kl kb klo kk
            rw [← kk] at tv
            cases qo with
            | true =>
              rw [if_pos rfl] at hg
              rw [if_pos rfl] at hii
              subst hg
              ((repeat' (first
    | (show SQ _ _ _ _ _ _ _ _; first | apply sq_nil | (apply q_move; exact rfl; exact rfl) | (apply q_assign; exact rfl; exact rfl) | (apply q_pick_t; exact rfl; exact rfl; exact rfl; exact (by first | assumption | exact rfl)) | (apply q_sub; exact rfl; exact rfl; exact rfl) | (apply q_neq; exact rfl; exact rfl; exact rfl) | (apply q_lss; exact rfl; exact rfl; exact rfl) | (apply q_ixd; exact rfl; exact rfl; exact rfl; exact (ty rfl); exact rfl; exact (by first | omega | (simp; done) | (simp; omega)); exact (by first | omega | (simp; done) | (simp; omega)); exact (by first | rfl | assumption)) | (apply q_ld1d; exact rfl; exact rfl; exact (ty rfl); exact rfl; exact rfl) | (apply q_g; exact rfl; exact rfl; exact rfl; exact (by assumption)))
    | (show SQ _ _ _ _ _ _ _ _; (first | (apply q_callC; exact rfl; exact rfl; exact rfl; exact hii _; (focus ((repeat (first | exact trivial | refine ⟨by first | exact rfl | assumption, ?_⟩)); done)); skip)); (try simp only [put, rowsOf, plR, List.all_cons, selE, ovr, setH, del, cellsA, splice, isV, List.nil_append, List.cons_append, List.map_cons, List.map_nil, List.length_cons, List.length_nil, List.set_cons_zero, List.set_cons_succ, List.take_succ_cons, List.take_zero, List.take_nil, List.drop_succ_cons, List.drop_zero, List.drop_nil, List.append_nil, List.all_cons, List.all_nil, Bool.and_true, Bool.true_and, Bool.and_false, Bool.false_and, Nat.reduceAdd, Nat.zero_add, Nat.add_zero, Nat.reduceEqDiff, if_true, if_false, reduceIte]))
    | (show AW _ _ _ _ _ _ _ _; first | refine aw_region ?_ | (refine aw_seqk ?_; intro K hK) | refine aw_block ?_ | (apply aw_cond_t; exact rfl; exact rfl) | (apply aw_cond_t; exact rfl; exact (by assumption)) | refine aw_ret ?_ | refine aw_skip ?_)
    | refine thn_n ?_
    | (refine hK _ _ _ ?_; clear hK K)
    | refine thn_r ?_
    | refine inb_r ?_)); all_goals (repeat (clear hK K)))
              all_goals exact finc (mv 2 3) (.r1 _ _ (.tmp _ _ rfl)) rfl (fun z hz => by simp at hz; simp [mv]; omega) ⟨rfl, rfl, trivial⟩ rfl
            | false =>
              rw [if_neg (by simp)] at hg
              rw [if_neg (by simp)] at hii
              ((repeat' (first
    | (show SQ _ _ _ _ _ _ _ _; first | apply sq_nil | (apply q_move; exact rfl; exact rfl) | (apply q_assign; exact rfl; exact rfl) | (apply q_pick_t; exact rfl; exact rfl; exact rfl; exact (by first | assumption | exact rfl)) | (apply q_add; exact rfl; exact rfl; exact rfl) | (apply q_sub; exact rfl; exact rfl; exact rfl) | (apply q_neq; exact rfl; exact rfl; exact rfl) | (apply q_lss; exact rfl; exact rfl; exact rfl) | (apply q_ixd; exact rfl; exact rfl; exact rfl; exact (ty rfl); exact rfl; exact (by first | omega | (simp; done) | (simp; omega)); exact (by first | omega | (simp; done) | (simp; omega)); exact (by first | rfl | assumption)) | (apply q_ld1d; exact rfl; exact rfl; exact (ty rfl); exact rfl; exact rfl) | (apply q_g; exact rfl; exact rfl; exact rfl; exact (by assumption)))
    | (show SQ _ _ _ _ _ _ _ _; (first | (apply q_callC; exact rfl; exact rfl; exact rfl; exact hii _; (focus ((repeat (first | exact trivial | refine ⟨by first | exact rfl | assumption, ?_⟩)); done)); skip)); (try simp only [put, rowsOf, plR, List.all_cons, selE, ovr, setH, del, cellsA, splice, isV, List.nil_append, List.cons_append, List.map_cons, List.map_nil, List.length_cons, List.length_nil, List.set_cons_zero, List.set_cons_succ, List.take_succ_cons, List.take_zero, List.take_nil, List.drop_succ_cons, List.drop_zero, List.drop_nil, List.append_nil, List.all_cons, List.all_nil, Bool.and_true, Bool.true_and, Bool.and_false, Bool.false_and, Nat.reduceAdd, Nat.zero_add, Nat.add_zero, Nat.reduceEqDiff, if_true, if_false, reduceIte]))
    | (show AW _ _ _ _ _ _ _ _; first | refine aw_region ?_ | (refine aw_seqk ?_; intro K hK) | refine aw_block ?_ | (apply aw_cond_f; exact rfl; exact rfl) | (apply aw_cond_t; exact rfl; exact (by assumption)) | refine aw_skip ?_)
    | refine thn_n ?_
    | (refine hK _ _ _ ?_; clear hK K)
    | refine inb_n ?_)); all_goals (repeat (clear hK K)))
              all_goals (refine ⟨(j + 1, (qb, qf)), mv 2 3, ⟨c1, klo, by dsimp only; omega, kl, tv, hg⟩, by dsimp only; omega, ?_⟩; (try dsimp only); rw [← hw]; exact ⟨by (repeat (refine ⟨by first | exact lk_i rfl rfl | exact lk_d rfl rfl | exact lk_r rfl rfl rfl, ?_⟩)); exact trivial, by (repeat (refine ⟨by first | exact ⟨rfl, rfl, rfl⟩, ?_⟩)); exact trivial, by rfl, by (intro i hi; (try dsimp only); refine ⟨?_, ?_⟩ <;> first | rfl | omega | (simp [mv]; omega))⟩)
        · have d1 : decide ((j : Int) < (dom.length : Int)) = false := by simpa using c1
          rw [List.drop_of_length_le (by omega), domF] at hg
          subst hg
          ((repeat' (first
    | (show SQ _ _ _ _ _ _ _ _; first | apply sq_nil | (apply q_assign; exact rfl; exact rfl) | (apply q_lss; exact rfl; exact rfl; exact rfl))
    | (show AW _ _ _ _ _ _ _ _; first | refine aw_region ?_ | (refine aw_seqk ?_; intro K hK) | (apply aw_cond_f; exact rfl; exact (by assumption)) | refine aw_ret ?_ | refine aw_exit ?_)
    | refine thn_n ?_
    | (refine hK _ _ _ ?_; clear hK K)
    | refine thn_e ?_
    | refine inb_same ?_
    | (clear hK K; refine hK _ _ _ ?_; clear hK K))); all_goals (repeat (clear hK K)))
          all_goals exact finc id (.r1 _ _ (.tmp _ _ rfl)) rfl (fun z hz => rfl) ⟨rfl, rfl, trivial⟩ rfl
    | true =>
      simp only [if_true] at hQQ
      have hT0 := hT before left st hbv l0 l1 (by omega) s1 hl hv 0 1 (by decide)
      have hk0 := hTk before left st hl (by omega)
      generalize tryF nxt ap item before left st = q0 at *
      obtain ⟨qo, qb, qf⟩ := q0
      have kl := hk0.le
      have kb := hk0.bud
      have klo := hk0.lo
      have kk := hk0.keep
      dsimp only at hQQ hT0 kl kb klo kk
      rw [← kk] at hv
      cases qo with
      | true =>
        rw [if_pos rfl] at hQQ hT0
        subst hQQ
        ((repeat' (first
    | (show SQ _ _ _ _ _ _ _ _; first | apply sq_nil | (apply q_move; exact rfl; exact rfl) | (apply q_assign; exact rfl; exact rfl) | (apply q_pick_t; exact rfl; exact rfl; exact rfl; exact (by first | assumption | exact rfl)) | (apply q_fieldAddr; exact rfl; exact rfl; exact (ty rfl); exact rfl; exact rfl; exact rfl; exact rfl) | (apply q_nilc; exact rfl; exact rfl; exact rfl) | (apply q_lend; exact rfl; exact rfl; exact (ty rfl); exact rfl) | (apply q_lenl; exact rfl; exact rfl; exact (ty rfl); exact rfl) | (apply q_eql; exact rfl; exact rfl; exact rfl) | (apply q_ld1p; exact rfl; exact rfl; exact (ty rfl); exact rfl; exact rfl; exact (by first | rfl | assumption | ((try simp only [Nat.zero_add]); refine List.getElem?_set_self ?_; (try simp only [List.length_set]); assumption)); exact rfl) | (apply q_g; exact rfl; exact rfl; exact rfl; exact rfl))
    | (show SQ _ _ _ _ _ _ _ _; (first | (apply q_callU; exact rfl; exact rfl; exact rfl; exact FzL.of rfl; exact hC1 _) | (apply q_callC; exact rfl; exact rfl; exact rfl; exact hT0 _; (focus ((repeat (first | exact trivial | refine ⟨by first | exact rfl | assumption, ?_⟩)); done)); skip)); (try simp only [put, rowsOf, plR, List.all_cons, selE, ovr, setH, del, cellsA, splice, isV, List.nil_append, List.cons_append, List.map_cons, List.map_nil, List.length_cons, List.length_nil, List.set_cons_zero, List.set_cons_succ, List.take_succ_cons, List.take_zero, List.take_nil, List.drop_succ_cons, List.drop_zero, List.drop_nil, List.append_nil, List.all_cons, List.all_nil, Bool.and_true, Bool.true_and, Bool.and_false, Bool.false_and, Nat.reduceAdd, Nat.zero_add, Nat.add_zero, Nat.reduceEqDiff, if_true, if_false, reduceIte]))
    | (show DE _ _ _ _ _ _ _ _ _ _ _ _; first | (apply e_move; exact rfl; exact rfl; exact rfl) | (apply e_assign; exact rfl; exact rfl; exact rfl) | (apply e_fieldAddr; exact rfl; exact rfl; exact (ty rfl); exact rfl; exact rfl; exact rfl; exact rfl; exact rfl) | (apply e_nilc; exact rfl; exact rfl; exact rfl; exact rfl) | (apply e_ixd; exact rfl; exact rfl; exact rfl; exact (ty rfl); exact rfl; exact (by first | omega | (simp; done) | (simp; omega)); exact (by first | omega | (simp; done) | (simp; omega)); exact (by first | rfl | assumption); exact rfl) | (apply e_ld1d; exact rfl; exact rfl; exact (ty rfl); exact rfl; exact rfl; exact rfl) | (apply e_ld1p; exact rfl; exact rfl; exact (ty rfl); exact rfl; exact rfl; exact (by first | rfl | assumption | ((try simp only [Nat.zero_add]); refine List.getElem?_set_self ?_; (try simp only [List.length_set]); assumption)); exact rfl; exact rfl))
    | (show DE _ _ _ _ _ _ _ _ _ _ _ _; (first | (apply dr_nil; exact trivial)); (try simp only [put, rowsOf, plR, List.all_cons, selE, ovr, setH, del, cellsA, splice, isV, List.nil_append, List.cons_append, List.map_cons, List.map_nil, List.length_cons, List.length_nil, List.set_cons_zero, List.set_cons_succ, List.take_succ_cons, List.take_zero, List.take_nil, List.drop_succ_cons, List.drop_zero, List.drop_nil, List.append_nil, List.all_cons, List.all_nil, Bool.and_true, Bool.true_and, Bool.and_false, Bool.false_and, Nat.reduceAdd, Nat.zero_add, Nat.add_zero, Nat.reduceEqDiff, if_true, if_false, reduceIte]))
    | (show AW _ _ _ _ _ _ _ _; first | refine aw_region ?_ | (refine aw_seqk ?_; intro K hK) | (apply aw_cond_t; exact rfl; exact rfl) | (apply aw_cond_f; exact rfl; exact (by assumption)) | refine aw_ret ?_ | refine aw_skip ?_ | refine aw_drawE (id := 4) [0, 1, 3, 7, 0, 31, 63, 0, 128, 384, 896, 1920, 0, 8064, 16256, 127, 65535] [0, 0, 0, 1, 0, 0, 1, 0, 0, 0, 0, 1, 0, 0, 1, 0, 0] mixed (by kernel_rfl) ?_)
    | refine thn_n ?_
    | (refine hK _ _ _ ?_; clear hK K)
    | refine thn_r ?_)); all_goals (repeat (clear hK K)))
        all_goals exact finc id (.r1 _ _ (.tmp _ _ rfl)) rfl (fun z hz => rfl) ⟨rfl, rfl, trivial⟩ rfl
      | false =>
      rw [if_neg (by simp)] at hT0
      rw [if_neg (by simp)] at hQQ
      cases hu : (u2 || left == 0) with
      | true =>
        rw [if_pos hu] at hQQ
        subst hQQ
        cases u2 with
        | true =>
          ((repeat' (first
    | (show SQ _ _ _ _ _ _ _ _; first | apply sq_nil | (apply q_move; exact rfl; exact rfl) | (apply q_assign; exact rfl; exact rfl) | (apply q_pick_t; exact rfl; exact rfl; exact rfl; exact (by first | assumption | exact rfl)) | (apply q_fieldAddr; exact rfl; exact rfl; exact (ty rfl); exact rfl; exact rfl; exact rfl; exact rfl) | (apply q_nilc; exact rfl; exact rfl; exact rfl) | (apply q_lend; exact rfl; exact rfl; exact (ty rfl); exact rfl) | (apply q_lenl; exact rfl; exact rfl; exact (ty rfl); exact rfl) | (apply q_eql; exact rfl; exact rfl; exact rfl) | (apply q_ld1p; exact rfl; exact rfl; exact (ty rfl); exact rfl; exact rfl; exact (by first | rfl | assumption | ((try simp only [Nat.zero_add]); refine List.getElem?_set_self ?_; (try simp only [List.length_set]); assumption)); exact rfl) | (apply q_g; exact rfl; exact rfl; exact rfl; exact (by assumption)) | (apply q_s; exact rfl; exact rfl; exact rfl; exact (by assumption); exact rfl))
    | (show SQ _ _ _ _ _ _ _ _; (first | (apply q_callU; exact rfl; exact rfl; exact rfl; exact FzL.of rfl; exact hC1 _) | (apply q_callU; exact rfl; exact rfl; exact rfl; exact FzL.of rfl; exact hC2 _) | (apply q_callC; exact rfl; exact rfl; exact rfl; exact hT0 _; (focus ((repeat (first | exact trivial | refine ⟨by first | exact rfl | assumption, ?_⟩)); done)); skip)); (try simp only [put, rowsOf, plR, List.all_cons, selE, ovr, setH, del, cellsA, splice, isV, List.nil_append, List.cons_append, List.map_cons, List.map_nil, List.length_cons, List.length_nil, List.set_cons_zero, List.set_cons_succ, List.take_succ_cons, List.take_zero, List.take_nil, List.drop_succ_cons, List.drop_zero, List.drop_nil, List.append_nil, List.all_cons, List.all_nil, Bool.and_true, Bool.true_and, Bool.and_false, Bool.false_and, Nat.reduceAdd, Nat.zero_add, Nat.add_zero, Nat.reduceEqDiff, if_true, if_false, reduceIte]))
    | (show DE _ _ _ _ _ _ _ _ _ _ _ _; first | (apply e_move; exact rfl; exact rfl; exact rfl) | (apply e_assign; exact rfl; exact rfl; exact rfl) | (apply e_fieldAddr; exact rfl; exact rfl; exact (ty rfl); exact rfl; exact rfl; exact rfl; exact rfl; exact rfl) | (apply e_nilc; exact rfl; exact rfl; exact rfl; exact rfl) | (apply e_ixd; exact rfl; exact rfl; exact rfl; exact (ty rfl); exact rfl; exact (by first | omega | (simp; done) | (simp; omega)); exact (by first | omega | (simp; done) | (simp; omega)); exact (by first | rfl | assumption); exact rfl) | (apply e_ld1d; exact rfl; exact rfl; exact (ty rfl); exact rfl; exact rfl; exact rfl) | (apply e_ld1p; exact rfl; exact rfl; exact (ty rfl); exact rfl; exact rfl; exact (by first | rfl | assumption | ((try simp only [Nat.zero_add]); refine List.getElem?_set_self ?_; (try simp only [List.length_set]); assumption)); exact rfl; exact rfl))
    | (show DE _ _ _ _ _ _ _ _ _ _ _ _; (first | (apply dr_nil; exact trivial)); (try simp only [put, rowsOf, plR, List.all_cons, selE, ovr, setH, del, cellsA, splice, isV, List.nil_append, List.cons_append, List.map_cons, List.map_nil, List.length_cons, List.length_nil, List.set_cons_zero, List.set_cons_succ, List.take_succ_cons, List.take_zero, List.take_nil, List.drop_succ_cons, List.drop_zero, List.drop_nil, List.append_nil, List.all_cons, List.all_nil, Bool.and_true, Bool.true_and, Bool.and_false, Bool.false_and, Nat.reduceAdd, Nat.zero_add, Nat.add_zero, Nat.reduceEqDiff, if_true, if_false, reduceIte]))
    | (show AW _ _ _ _ _ _ _ _; first | refine aw_region ?_ | (refine aw_seqk ?_; intro K hK) | (apply aw_cond_t; exact rfl; exact rfl) | (apply aw_cond_f; exact rfl; exact rfl) | (apply aw_cond_f; exact rfl; exact (by assumption)) | refine aw_ret ?_ | refine aw_skip ?_ | refine aw_drawE (id := 4) [0, 1, 3, 7, 0, 31, 63, 0, 128, 384, 896, 1920, 0, 8064, 16256, 127, 65535] [0, 0, 0, 1, 0, 0, 1, 0, 0, 0, 0, 1, 0, 0, 1, 0, 0] mixed (by kernel_rfl) ?_)
    | refine thn_n ?_
    | (refine hK _ _ _ ?_; clear hK K)
    | refine thn_r ?_)); all_goals (repeat (clear hK K)))
          all_goals exact finc id (.r1 _ _ (.tmp _ _ rfl)) rfl (fun z hz => rfl) ⟨rfl, rfl, trivial⟩ rfl
        | false =>
          have hz0 : (left == 0) = true := by simpa using hu
          ((repeat' (first
    | (show SQ _ _ _ _ _ _ _ _; first | apply sq_nil | (apply q_move; exact rfl; exact rfl) | (apply q_assign; exact rfl; exact rfl) | (apply q_pick_t; exact rfl; exact rfl; exact rfl; exact (by first | assumption | exact rfl)) | (apply q_pick_f; exact rfl; exact rfl; exact rfl; exact (by first | assumption | exact rfl)) | (apply q_fieldAddr; exact rfl; exact rfl; exact (ty rfl); exact rfl; exact rfl; exact rfl; exact rfl) | (apply q_nilc; exact rfl; exact rfl; exact rfl) | (apply q_lend; exact rfl; exact rfl; exact (ty rfl); exact rfl) | (apply q_lenl; exact rfl; exact rfl; exact (ty rfl); exact rfl) | (apply q_eql; exact rfl; exact rfl; exact rfl) | (apply q_ld1p; exact rfl; exact rfl; exact (ty rfl); exact rfl; exact rfl; exact (by first | rfl | assumption | ((try simp only [Nat.zero_add]); refine List.getElem?_set_self ?_; (try simp only [List.length_set]); assumption)); exact rfl) | (apply q_g; exact rfl; exact rfl; exact rfl; exact rfl))
    | (show SQ _ _ _ _ _ _ _ _; (first | (apply q_callU; exact rfl; exact rfl; exact rfl; exact FzL.of rfl; exact hC1 _) | (apply q_callU; exact rfl; exact rfl; exact rfl; exact FzL.of rfl; exact hC2 _) | (apply q_callC; exact rfl; exact rfl; exact rfl; exact hT0 _; (focus ((repeat (first | exact trivial | refine ⟨by first | exact rfl | assumption, ?_⟩)); done)); skip)); (try simp only [put, rowsOf, plR, List.all_cons, selE, ovr, setH, del, cellsA, splice, isV, List.nil_append, List.cons_append, List.map_cons, List.map_nil, List.length_cons, List.length_nil, List.set_cons_zero, List.set_cons_succ, List.take_succ_cons, List.take_zero, List.take_nil, List.drop_succ_cons, List.drop_zero, List.drop_nil, List.append_nil, List.all_cons, List.all_nil, Bool.and_true, Bool.true_and, Bool.and_false, Bool.false_and, Nat.reduceAdd, Nat.zero_add, Nat.add_zero, Nat.reduceEqDiff, if_true, if_false, reduceIte]))
    | (show DE _ _ _ _ _ _ _ _ _ _ _ _; first | (apply e_move; exact rfl; exact rfl; exact rfl) | (apply e_assign; exact rfl; exact rfl; exact rfl) | (apply e_fieldAddr; exact rfl; exact rfl; exact (ty rfl); exact rfl; exact rfl; exact rfl; exact rfl; exact rfl) | (apply e_nilc; exact rfl; exact rfl; exact rfl; exact rfl) | (apply e_ixd; exact rfl; exact rfl; exact rfl; exact (ty rfl); exact rfl; exact (by first | omega | (simp; done) | (simp; omega)); exact (by first | omega | (simp; done) | (simp; omega)); exact (by first | rfl | assumption); exact rfl) | (apply e_ld1d; exact rfl; exact rfl; exact (ty rfl); exact rfl; exact rfl; exact rfl) | (apply e_ld1p; exact rfl; exact rfl; exact (ty rfl); exact rfl; exact rfl; exact (by first | rfl | assumption | ((try simp only [Nat.zero_add]); refine List.getElem?_set_self ?_; (try simp only [List.length_set]); assumption)); exact rfl; exact rfl))
    | (show DE _ _ _ _ _ _ _ _ _ _ _ _; (first | (apply dr_nil; exact trivial)); (try simp only [put, rowsOf, plR, List.all_cons, selE, ovr, setH, del, cellsA, splice, isV, List.nil_append, List.cons_append, List.map_cons, List.map_nil, List.length_cons, List.length_nil, List.set_cons_zero, List.set_cons_succ, List.take_succ_cons, List.take_zero, List.take_nil, List.drop_succ_cons, List.drop_zero, List.drop_nil, List.append_nil, List.all_cons, List.all_nil, Bool.and_true, Bool.true_and, Bool.and_false, Bool.false_and, Nat.reduceAdd, Nat.zero_add, Nat.add_zero, Nat.reduceEqDiff, if_true, if_false, reduceIte]))
    | (show AW _ _ _ _ _ _ _ _; first | refine aw_region ?_ | (refine aw_seqk ?_; intro K hK) | (apply aw_cond_f; exact rfl; exact rfl) | (apply aw_cond_t; exact rfl; exact (by assumption)) | (apply aw_cond_f; exact rfl; exact (by assumption)) | refine aw_ret ?_ | refine aw_skip ?_ | refine aw_drawE (id := 4) [0, 1, 3, 7, 0, 31, 63, 0, 128, 384, 896, 1920, 0, 8064, 16256, 127, 65535] [0, 0, 0, 1, 0, 0, 1, 0, 0, 0, 0, 1, 0, 0, 1, 0, 0] mixed (by kernel_rfl) ?_)
    | refine thn_n ?_
    | (refine hK _ _ _ ?_; clear hK K)
    | refine thn_r ?_)); all_goals (repeat (clear hK K)))
          all_goals exact finc id (.r1 _ _ (.tmp _ _ rfl)) rfl (fun z hz => rfl) ⟨rfl, rfl, trivial⟩ rfl
      | false =>
        rw [if_neg (by rw [hu]; simp)] at hQQ
        obtain ⟨rfl, hz0⟩ : u2 = false ∧ (left == 0) = false := by simpa [Bool.or_eq_false_iff] using hu
        have hl1 : 1 ≤ left := by have := beq_eq_false_iff_ne.1 hz0; omega
        ((repeat' (first
    | (show SQ _ _ _ _ _ _ _ _; first | apply sq_nil | (apply q_move; exact rfl; exact rfl) | (apply q_assign; exact rfl; exact rfl) | (apply q_pick_t; exact rfl; exact rfl; exact rfl; exact (by first | assumption | exact rfl)) | (apply q_pick_f; exact rfl; exact rfl; exact rfl; exact (by first | assumption | exact rfl)) | (apply q_fieldAddr; exact rfl; exact rfl; exact (ty rfl); exact rfl; exact rfl; exact rfl; exact rfl) | (apply q_nilc; exact rfl; exact rfl; exact rfl) | (apply q_lend; exact rfl; exact rfl; exact (ty rfl); exact rfl) | (apply q_lenl; exact rfl; exact rfl; exact (ty rfl); exact rfl) | (apply q_eql; exact rfl; exact rfl; exact rfl) | (apply q_ld1p; exact rfl; exact rfl; exact (ty rfl); exact rfl; exact rfl; exact (by first | rfl | assumption | ((try simp only [Nat.zero_add]); refine List.getElem?_set_self ?_; (try simp only [List.length_set]); assumption)); exact rfl) | (apply q_g; exact rfl; exact rfl; exact rfl; exact rfl))
    | (show SQ _ _ _ _ _ _ _ _; (first | (apply q_callU; exact rfl; exact rfl; exact rfl; exact FzL.of rfl; exact hC1 _) | (apply q_callU; exact rfl; exact rfl; exact rfl; exact FzL.of rfl; exact hC2 _) | (apply q_callC; exact rfl; exact rfl; exact rfl; exact hT0 _; (focus ((repeat (first | exact trivial | refine ⟨by first | exact rfl | assumption, ?_⟩)); done)); skip)); (try simp only [put, rowsOf, plR, List.all_cons, selE, ovr, setH, del, cellsA, splice, isV, List.nil_append, List.cons_append, List.map_cons, List.map_nil, List.length_cons, List.length_nil, List.set_cons_zero, List.set_cons_succ, List.take_succ_cons, List.take_zero, List.take_nil, List.drop_succ_cons, List.drop_zero, List.drop_nil, List.append_nil, List.all_cons, List.all_nil, Bool.and_true, Bool.true_and, Bool.and_false, Bool.false_and, Nat.reduceAdd, Nat.zero_add, Nat.add_zero, Nat.reduceEqDiff, if_true, if_false, reduceIte]))
    | (show DE _ _ _ _ _ _ _ _ _ _ _ _; first | (apply e_move; exact rfl; exact rfl; exact rfl) | (apply e_assign; exact rfl; exact rfl; exact rfl) | (apply e_fieldAddr; exact rfl; exact rfl; exact (ty rfl); exact rfl; exact rfl; exact rfl; exact rfl; exact rfl) | (apply e_nilc; exact rfl; exact rfl; exact rfl; exact rfl) | (apply e_ixd; exact rfl; exact rfl; exact rfl; exact (ty rfl); exact rfl; exact (by first | omega | (simp; done) | (simp; omega)); exact (by first | omega | (simp; done) | (simp; omega)); exact (by first | rfl | assumption); exact rfl) | (apply e_ld1d; exact rfl; exact rfl; exact (ty rfl); exact rfl; exact rfl; exact rfl) | (apply e_ld1p; exact rfl; exact rfl; exact (ty rfl); exact rfl; exact rfl; exact (by first | rfl | assumption | ((try simp only [Nat.zero_add]); refine List.getElem?_set_self ?_; (try simp only [List.length_set]); assumption)); exact rfl; exact rfl))
    | (show DE _ _ _ _ _ _ _ _ _ _ _ _; (first | (apply dr_nil; exact trivial)); (try simp only [put, rowsOf, plR, List.all_cons, selE, ovr, setH, del, cellsA, splice, isV, List.nil_append, List.cons_append, List.map_cons, List.map_nil, List.length_cons, List.length_nil, List.set_cons_zero, List.set_cons_succ, List.take_succ_cons, List.take_zero, List.take_nil, List.drop_succ_cons, List.drop_zero, List.drop_nil, List.append_nil, List.all_cons, List.all_nil, Bool.and_true, Bool.true_and, Bool.and_false, Bool.false_and, Nat.reduceAdd, Nat.zero_add, Nat.add_zero, Nat.reduceEqDiff, if_true, if_false, reduceIte]))
    | (show AW _ _ _ _ _ _ _ _; first | refine aw_region ?_ | (refine aw_seqk ?_; intro K hK) | refine aw_block ?_ | (apply aw_cond_f; exact rfl; exact rfl) | (apply aw_cond_f; exact rfl; exact (by assumption)) | refine aw_skip ?_ | refine aw_drawE (id := 4) [0, 1, 3, 7, 0, 31, 63, 0, 128, 384, 896, 1920, 0, 8064, 16256, 127, 65535] [0, 0, 0, 1, 0, 0, 1, 0, 0, 0, 0, 1, 0, 0, 1, 0, 0] mixed (by kernel_rfl) ?_)
    | refine thn_n ?_
    | (refine hK _ _ _ ?_; clear hK K))); all_goals (repeat (clear hK K)))
        show AW _ _ 2 _ _ _ _ _
        refine aw_loop (ρ := id) (ι := Nat × Rs) (fun s => ([(59, .v (.int .i64 s.1)), (58, .v (.int .i64 dom.length)), (57, .dsl 1 (dom.map inL)), (6, .v (.int .i64 before)), (5, .v (.int .i64 item)), (1, .v (.int .i64 left)), (0, .ptr 0 0 0)],
            [(0, ⟨92, 6, false, [[.dsl 1 (nbL ds), .dsl 1 (nbL ap), .dsl 1 (list.map inL), .dsl 1 (frz.map inL), .v (.int .i64 s.2.1), .sl 2 0 item]]⟩), (2, ⟨2, 1, true, s.2.2.map inL⟩)], 3))
          (fun s => s.1 ≤ dom.length ∧ -1 ≤ s.2.1 ∧ s.2.1 ≤ 20000 ∧ item ≤ s.2.2.length ∧ (∀ x ∈ s.2.2.take item, 0 ≤ x ∧ x ≤ 999) ∧ domF nxt ap item before left (dom.drop s.1) s.2 = Q) (fun s => dom.length - s.1) (0, (qb, qf)) ⟨Nat.zero_le _, klo, by dsimp only; omega, kl, hv, by rw [List.drop_zero]; exact hQQ⟩ ⟨by (repeat (refine ⟨by first | exact lk_i rfl rfl | exact lk_i rfl (by (try dsimp only); first | rfl | omega | (rw [IntWalk.i64_in _ (by omega)]; first | rfl | omega | (push_cast; omega)) | (simp; done) | (simp; omega)) | exact lk_d rfl rfl | exact lk_r rfl rfl rfl, ?_⟩)); exact trivial, by (repeat (refine ⟨by first | exact ⟨rfl, rfl, rfl⟩, ?_⟩)); exact trivial, by rfl, by (intro i hi; (try dsimp only); refine ⟨?_, ?_⟩ <;> first | rfl | omega | (simp at hi; omega) | (simp; omega))⟩ ?_
        rintro ⟨j, b2, bf⟩ ⟨hj, t0, t1, tl, tv, hg⟩
        dsimp only at hj t0 t1 tl tv hg
        by_cases c1 : j < dom.length
        · have d1 : decide ((j : Int) < (dom.length : Int)) = true := by simpa using c1
          have hw : IntKind.i64.wrap ((j : Int) + 1) = ((j + 1 : Nat) : Int) := by rw [IntWalk.i64_in _ (by omega)]; omega
          have hrj : (dom.map inL)[((j : Int)).toNat]? = some (inL dom[j]) := by simp [c1]
          rw [inL_eq] at hrj
          have hcv := hdv _ (List.getElem_mem c1)
          rw [List.drop_eq_getElem_cons c1, domF] at hg
          generalize dom[j] = cc at *
          by_cases c2 : cc = before
          · have d2 : (cc != before) = false := by simpa using c2
            rw [if_pos c2] at hg
            ((repeat' (first
    | (show SQ _ _ _ _ _ _ _ _; first | apply sq_nil | (apply q_move; exact rfl; exact rfl) | (apply q_assign; exact rfl; exact rfl) | (apply q_pick_f; exact rfl; exact rfl; exact rfl; exact (by first | assumption | exact rfl)) | (apply q_add; exact rfl; exact rfl; exact rfl) | (apply q_neq; exact rfl; exact rfl; exact rfl) | (apply q_lss; exact rfl; exact rfl; exact rfl) | (apply q_ixd; exact rfl; exact rfl; exact rfl; exact (ty rfl); exact rfl; exact (by first | omega | (simp; done) | (simp; omega)); exact (by first | omega | (simp; done) | (simp; omega)); exact (by first | rfl | assumption)) | (apply q_ld1d; exact rfl; exact rfl; exact (ty rfl); exact rfl; exact rfl) | (apply q_s; exact rfl; exact rfl; exact rfl; exact (by assumption); exact rfl))
    | (show AW _ _ _ _ _ _ _ _; first | refine aw_region ?_ | (refine aw_seqk ?_; intro K hK) | refine aw_block ?_ | (apply aw_cond_f; exact rfl; exact rfl) | (apply aw_cond_t; exact rfl; exact (by assumption)) | refine aw_skip ?_)
    | refine thn_n ?_
    | (refine hK _ _ _ ?_; clear hK K)
    | refine inb_n ?_)); all_goals (repeat (clear hK K)))
            all_goals (refine ⟨(j + 1, (b2, bf)), id, ⟨c1, t0, t1, tl, tv, hg⟩, by dsimp only; omega, ?_⟩; (try dsimp only); rw [← hw]; exact ⟨by (repeat (refine ⟨by first | exact lk_i rfl rfl | exact lk_d rfl rfl | exact lk_r rfl rfl rfl, ?_⟩)); exact trivial, by (repeat (refine ⟨by first | exact ⟨rfl, rfl, rfl⟩, ?_⟩)); exact trivial, by rfl, by (intro i hi; (try dsimp only); refine ⟨?_, ?_⟩ <;> first | rfl | omega | (simp at hi; omega) | (simp; omega))⟩)
          · have d2 : (cc != before) = true := by simpa using c2
            rw [if_neg c2] at hg
            have hwl : IntKind.i64.wrap (left - 1) = left - 1 := IntWalk.i64_in _ (by omega)
            rw [← hwl] at hg
            have hii := hT cc (IntKind.i64.wrap (left - 1)) (b2, bf) hcv (by rw [hwl]; omega) (by rw [hwl]; omega) t0 t1 tl tv 0 2 (by decide)
            have hkk := hTk cc (IntKind.i64.wrap (left - 1)) (b2, bf) tl t0
            generalize tryF nxt ap item cc (IntKind.i64.wrap (left - 1)) (b2, bf) = q at *
            obtain ⟨qo, qb, qf⟩ := q
            have kl := hkk.le
            have kb := hkk.bud
            have klo := hkk.lo
            have kk := hkk.keep
            dsimp only at hg hii kl kb klo kk
            rw [← kk] at tv
            cases qo with
            | true =>
              rw [if_pos rfl] at hg
              rw [if_pos rfl] at hii
              subst hg
              ((repeat' (first
    | (show SQ _ _ _ _ _ _ _ _; first | apply sq_nil | (apply q_move; exact rfl; exact rfl) | (apply q_assign; exact rfl; exact rfl) | (apply q_pick_t; exact rfl; exact rfl; exact rfl; exact (by first | assumption | exact rfl)) | (apply q_sub; exact rfl; exact rfl; exact rfl) | (apply q_neq; exact rfl; exact rfl; exact rfl) | (apply q_lss; exact rfl; exact rfl; exact rfl) | (apply q_ixd; exact rfl; exact rfl; exact rfl; exact (ty rfl); exact rfl; exact (by first | omega | (simp; done) | (simp; omega)); exact (by first | omega | (simp; done) | (simp; omega)); exact (by first | rfl | assumption)) | (apply q_ld1d; exact rfl; exact rfl; exact (ty rfl); exact rfl; exact rfl) | (apply q_g; exact rfl; exact rfl; exact rfl; exact (by assumption)))
    | (show SQ _ _ _ _ _ _ _ _; (first | (apply q_callC; exact rfl; exact rfl; exact rfl; exact hii _; (focus ((repeat (first | exact trivial | refine ⟨by first | exact rfl | assumption, ?_⟩)); done)); skip)); (try simp only [put, rowsOf, plR, List.all_cons, selE, ovr, setH, del, cellsA, splice, isV, List.nil_append, List.cons_append, List.map_cons, List.map_nil, List.length_cons, List.length_nil, List.set_cons_zero, List.set_cons_succ, List.take_succ_cons, List.take_zero, List.take_nil, List.drop_succ_cons, List.drop_zero, List.drop_nil, List.append_nil, List.all_cons, List.all_nil, Bool.and_true, Bool.true_and, Bool.and_false, Bool.false_and, Nat.reduceAdd, Nat.zero_add, Nat.add_zero, Nat.reduceEqDiff, if_true, if_false, reduceIte]))
    | (show AW _ _ _ _ _ _ _ _; first | refine aw_region ?_ | (refine aw_seqk ?_; intro K hK) | refine aw_block ?_ | (apply aw_cond_t; exact rfl; exact rfl) | (apply aw_cond_t; exact rfl; exact (by assumption)) | refine aw_ret ?_ | refine aw_skip ?_)
    | refine thn_n ?_
    | (refine hK _ _ _ ?_; clear hK K)
    | refine thn_r ?_
    | refine inb_r ?_)); all_goals (repeat (clear hK K)))
              all_goals exact finc (mv 2 3) (.r1 _ _ (.tmp _ _ rfl)) rfl (fun z hz => by simp at hz; simp [mv]; omega) ⟨rfl, rfl, trivial⟩ rfl
            | false =>
              rw [if_neg (by simp)] at hg
              rw [if_neg (by simp)] at hii
              ((repeat' (first
    | (show SQ _ _ _ _ _ _ _ _; first | apply sq_nil | (apply q_move; exact rfl; exact rfl) | (apply q_assign; exact rfl; exact rfl) | (apply q_pick_t; exact rfl; exact rfl; exact rfl; exact (by first | assumption | exact rfl)) | (apply q_add; exact rfl; exact rfl; exact rfl) | (apply q_sub; exact rfl; exact rfl; exact rfl) | (apply q_neq; exact rfl; exact rfl; exact rfl) | (apply q_lss; exact rfl; exact rfl; exact rfl) | (apply q_ixd; exact rfl; exact rfl; exact rfl; exact (ty rfl); exact rfl; exact (by first | omega | (simp; done) | (simp; omega)); exact (by first | omega | (simp; done) | (simp; omega)); exact (by first | rfl | assumption)) | (apply q_ld1d; exact rfl; exact rfl; exact (ty rfl); exact rfl; exact rfl) | (apply q_g; exact rfl; exact rfl; exact rfl; exact (by assumption)))
    | (show SQ _ _ _ _ _ _ _ _; (first | (apply q_callC; exact rfl; exact rfl; exact rfl; exact hii _; (focus ((repeat (first | exact trivial | refine ⟨by first | exact rfl | assumption, ?_⟩)); done)); skip)); (try simp only [put, rowsOf, plR, List.all_cons, selE, ovr, setH, del, cellsA, splice, isV, List.nil_append, List.cons_append, List.map_cons, List.map_nil, List.length_cons, List.length_nil, List.set_cons_zero, List.set_cons_succ, List.take_succ_cons, List.take_zero, List.take_nil, List.drop_succ_cons, List.drop_zero, List.drop_nil, List.append_nil, List.all_cons, List.all_nil, Bool.and_true, Bool.true_and, Bool.and_false, Bool.false_and, Nat.reduceAdd, Nat.zero_add, Nat.add_zero, Nat.reduceEqDiff, if_true, if_false, reduceIte]))
    | (show AW _ _ _ _ _ _ _ _; first | refine aw_region ?_ | (refine aw_seqk ?_; intro K hK) | refine aw_block ?_ | (apply aw_cond_f; exact rfl; exact rfl) | (apply aw_cond_t; exact rfl; exact (by assumption)) | refine aw_skip ?_)
    | refine thn_n ?_
    | (refine hK _ _ _ ?_; clear hK K)
    | refine inb_n ?_)); all_goals (repeat (clear hK K)))
              all_goals (refine ⟨(j + 1, (qb, qf)), mv 2 3, ⟨c1, klo, by dsimp only; omega, kl, tv, hg⟩, by dsimp only; omega, ?_⟩; (try dsimp only); rw [← hw]; exact ⟨by (repeat (refine ⟨by first | exact lk_i rfl rfl | exact lk_d rfl rfl | exact lk_r rfl rfl rfl, ?_⟩)); exact trivial, by (repeat (refine ⟨by first | exact ⟨rfl, rfl, rfl⟩, ?_⟩)); exact trivial, by rfl, by (intro i hi; (try dsimp only); refine ⟨?_, ?_⟩ <;> first | rfl | omega | (simp [mv]; omega))⟩)
        · have d1 : decide ((j : Int) < (dom.length : Int)) = false := by simpa using c1
          rw [List.drop_of_length_le (by omega), domF] at hg
          subst hg
          ((repeat' (first
    | (show SQ _ _ _ _ _ _ _ _; first | apply sq_nil | (apply q_assign; exact rfl; exact rfl) | (apply q_lss; exact rfl; exact rfl; exact rfl))
    | (show AW _ _ _ _ _ _ _ _; first | refine aw_region ?_ | (refine aw_seqk ?_; intro K hK) | (apply aw_cond_f; exact rfl; exact (by assumption)) | refine aw_ret ?_ | refine aw_exit ?_)
    | refine thn_n ?_
    | (refine hK _ _ _ ?_; clear hK K)
    | refine thn_e ?_
    | refine inb_same ?_
    | (clear hK K; refine hK _ _ _ ?_; clear hK K))); all_goals (repeat (clear hK K)))
          all_goals exact finc id (.r1 _ _ (.tmp _ _ rfl)) rfl (fun z hz => rfl) ⟨rfl, rfl, trivial⟩ rfl
end Go.Proofs.Yteknfaldpajlpaa.Nb

namespace Go.Proofs.Yteknfaldpajlpaa.Nb
open Go Go.RowKit Go.Proofs.Yteknfaldpajlpaa.Aw Go.Proofs.Yteknfaldpajlpaa.In Go.Proofs.Yteknfaldpajlpaa.Il
set_option linter.unusedSimpArgs false
set_option linter.unusedVariables false
set_option linter.unusedSectionVars false
attribute [local irreducible] AW SQ Step RO RC DE Thn InB
def chgN (a b : List Int) (i : Nat) : Nat := (List.range i).countP fun j => a.getD j 0 != b.getD j 0
theorem chgN_succ (a b : List Int) (i : Nat) : chgN a b (i + 1) = chgN a b i + (if a.getD i 0 != b.getD i 0 then 1 else 0) := by
  unfold chgN
  rw [List.range_succ, List.countP_append, List.countP_singleton]
theorem chgN_le (a b : List Int) (i : Nat) : chgN a b i ≤ i := by
  have := List.countP_le_length (p := fun j => a.getD j 0 != b.getD j 0) (l := List.range i)
  simpa [chgN] using this
set_option maxHeartbeats 4000000 in
theorem ChangesBetween_ro (a b : List Int) (h : a.length = b.length) (hn : a.length ≤ 1048576) (k : Nat) : RO Try.prog 36 [.dsl 1 (a.map inL), .dsl 1 (b.map inL)] k (.v (.int .i64 (chgN a b a.length))) [] k := by
  have hma : (a.map inL).length = a.length := List.length_map _
  have hmb : (b.map inL).length = b.length := List.length_map _
  have b0 : (((a.map inL).length : Int) != ((b.map inL).length : Int)) = false := by rw [hma, hmb, h]; simp
  refine RO.ofv' Try.func36 Try.ntmps36 rfl (goFn_of Try.func36 rfl (by kernel_rfl)) rfl rfl ?_
  ((repeat' (first
    | (show SQ _ _ _ _ _ _ _ _; first | apply sq_nil | (apply q_move; exact rfl; exact rfl) | (apply q_assign; exact rfl; exact rfl) | (apply q_lend; exact rfl; exact rfl; exact (ty rfl); exact rfl) | (apply q_neq; exact rfl; exact rfl; exact rfl))
    | (show AW _ _ _ _ _ _ _ _; first | refine aw_region ?_ | (refine aw_seqk ?_; intro K hK) | refine aw_block ?_ | (apply aw_cond_f; exact rfl; exact (by assumption)) | refine aw_skip ?_)
    | refine thn_n ?_
    | (refine hK _ _ _ ?_; clear hK K))); all_goals (repeat (clear hK K)))
  refine aw_loop (ρ := id) (ι := Nat) (fun i => ([(14, .v (.int .i64 i)), (13, .v (.int .i64 a.length)), (5, .v (.int .i64 (chgN a b i))), (1, .dsl 1 (b.map inL)), (0, .dsl 1 (a.map inL))], [], 0))
    (fun i => i ≤ a.length) (fun i => a.length - i) 0 (Nat.zero_le _) ⟨by (repeat (refine ⟨by first | exact lk_i rfl rfl | exact lk_i rfl (by (try dsimp only); first | rfl | omega | (rw [IntWalk.i64_in _ (by omega)]; first | rfl | omega | (push_cast; omega)) | (simp; done) | (simp; omega)) | exact lk_d rfl rfl, ?_⟩)); exact trivial, by exact trivial, by rfl, by exact pin_0⟩ ?_
  intro i hi
  have hle := chgN_le a b i
  have hsu := chgN_succ a b i
  by_cases c1 : i < a.length
  · have b1 : decide ((i : Int) < (a.length : Int)) = true := by (try rw [hma]); simpa using c1
    have c1b : i < b.length := by omega
    have hr1 : (a.map inL)[((i : Int)).toNat]? = some (inL (a.getD i 0)) := by simp [c1, List.getD]
    have hr2 : (b.map inL)[((i : Int)).toNat]? = some (inL (b.getD i 0)) := by simp [c1b, List.getD]
    rw [inL_eq] at hr1 hr2
    have hw : IntKind.i64.wrap ((i : Int) + 1) = ((i + 1 : Nat) : Int) := by rw [IntWalk.i64_in _ (by omega)]; omega
    have hwn : IntKind.i64.wrap ((chgN a b i : Int) + 1) = ((chgN a b i + 1 : Nat) : Int) := by rw [IntWalk.i64_in _ (by omega)]; omega
    cases b3 : (a.getD i 0 != b.getD i 0) with
    | false =>
      rw [b3] at hsu
      ((repeat' (first
    | (show SQ _ _ _ _ _ _ _ _; first | apply sq_nil | (apply q_move; exact rfl; exact rfl) | (apply q_assign; exact rfl; exact rfl) | (apply q_add; exact rfl; exact rfl; exact rfl) | (apply q_lss; exact rfl; exact rfl; exact rfl))
    | (show DE _ _ _ _ _ _ _ _ _ _ _ _; first | (apply e_move; exact rfl; exact rfl; exact rfl) | (apply e_neq; exact rfl; exact rfl; exact rfl; exact rfl) | (apply e_ixd; exact rfl; exact rfl; exact rfl; exact (ty rfl); exact rfl; exact (by first | omega | (simp; done) | (simp; omega)); exact (by first | omega | (simp; done) | (simp; omega)); exact (by first | rfl | assumption); exact rfl) | (apply e_ld1d; exact rfl; exact rfl; exact (ty rfl); exact rfl; exact rfl; exact rfl))
    | (show DE _ _ _ _ _ _ _ _ _ _ _ _; (first | (apply dr_nil; exact trivial)); (try simp only [put, rowsOf, plR, List.all_cons, selE, ovr, setH, del, cellsA, splice, isV, List.nil_append, List.cons_append, List.map_cons, List.map_nil, List.length_cons, List.length_nil, List.set_cons_zero, List.set_cons_succ, List.take_succ_cons, List.take_zero, List.take_nil, List.drop_succ_cons, List.drop_zero, List.drop_nil, List.append_nil, List.all_cons, List.all_nil, Bool.and_true, Bool.true_and, Bool.and_false, Bool.false_and, Nat.reduceAdd, Nat.zero_add, Nat.add_zero, Nat.reduceEqDiff, if_true, if_false, reduceIte]))
    | (show AW _ _ _ _ _ _ _ _; first | refine aw_region ?_ | (refine aw_seqk ?_; intro K hK) | refine aw_block ?_ | (apply aw_cond_t; exact rfl; exact (by assumption)) | (apply aw_cond_f; exact rfl; exact (by assumption)) | refine aw_skip ?_ | refine aw_drawE (id := 7) [0, 0, 3, 7, 0, 0, 48, 112, 255] [0, 0, 0, 1, 0, 0, 0, 1, 0] mixed (by kernel_rfl) ?_)
    | refine thn_n ?_
    | (refine hK _ _ _ ?_; clear hK K)
    | refine inb_n ?_)); all_goals (repeat (clear hK K)))
      all_goals (refine ⟨i + 1, id, c1, by omega, ?_⟩; (try dsimp only); rw [hsu, ← hw]; exact ⟨by (repeat (refine ⟨by first | exact lk_i rfl rfl | exact lk_d rfl rfl, ?_⟩)); exact trivial, by exact trivial, by rfl, by exact pin_0⟩)
    | true =>
      rw [b3] at hsu
      ((repeat' (first
    | (show SQ _ _ _ _ _ _ _ _; first | apply sq_nil | (apply q_move; exact rfl; exact rfl) | (apply q_assign; exact rfl; exact rfl) | (apply q_add; exact rfl; exact rfl; exact rfl) | (apply q_lss; exact rfl; exact rfl; exact rfl))
    | (show DE _ _ _ _ _ _ _ _ _ _ _ _; first | (apply e_move; exact rfl; exact rfl; exact rfl) | (apply e_neq; exact rfl; exact rfl; exact rfl; exact rfl) | (apply e_ixd; exact rfl; exact rfl; exact rfl; exact (ty rfl); exact rfl; exact (by first | omega | (simp; done) | (simp; omega)); exact (by first | omega | (simp; done) | (simp; omega)); exact (by first | rfl | assumption); exact rfl) | (apply e_ld1d; exact rfl; exact rfl; exact (ty rfl); exact rfl; exact rfl; exact rfl))
    | (show DE _ _ _ _ _ _ _ _ _ _ _ _; (first | (apply dr_nil; exact trivial)); (try simp only [put, rowsOf, plR, List.all_cons, selE, ovr, setH, del, cellsA, splice, isV, List.nil_append, List.cons_append, List.map_cons, List.map_nil, List.length_cons, List.length_nil, List.set_cons_zero, List.set_cons_succ, List.take_succ_cons, List.take_zero, List.take_nil, List.drop_succ_cons, List.drop_zero, List.drop_nil, List.append_nil, List.all_cons, List.all_nil, Bool.and_true, Bool.true_and, Bool.and_false, Bool.false_and, Nat.reduceAdd, Nat.zero_add, Nat.add_zero, Nat.reduceEqDiff, if_true, if_false, reduceIte]))
    | (show AW _ _ _ _ _ _ _ _; first | refine aw_region ?_ | (refine aw_seqk ?_; intro K hK) | refine aw_block ?_ | (apply aw_cond_t; exact rfl; exact (by assumption)) | refine aw_skip ?_ | refine aw_drawE (id := 7) [0, 0, 3, 7, 0, 0, 48, 112, 255] [0, 0, 0, 1, 0, 0, 0, 1, 0] mixed (by kernel_rfl) ?_)
    | refine thn_n ?_
    | (refine hK _ _ _ ?_; clear hK K)
    | refine inb_n ?_)); all_goals (repeat (clear hK K)))
      all_goals (refine ⟨i + 1, id, c1, by omega, ?_⟩; (try dsimp only); rw [hsu, if_pos rfl, ← hw, ← hwn]; exact ⟨by (repeat (refine ⟨by first | exact lk_i rfl rfl | exact lk_d rfl rfl, ?_⟩)); exact trivial, by exact trivial, by rfl, by exact pin_0⟩)
  · have b1 : decide ((i : Int) < (a.length : Int)) = false := by (try rw [hma]); simpa using c1
    obtain rfl : i = a.length := by omega
    ((repeat' (first
    | (show SQ _ _ _ _ _ _ _ _; first | apply sq_nil | (apply q_move; exact rfl; exact rfl) | (apply q_assign; exact rfl; exact rfl) | (apply q_lss; exact rfl; exact rfl; exact rfl))
    | (show AW _ _ _ _ _ _ _ _; first | refine aw_region ?_ | (refine aw_seqk ?_; intro K hK) | (apply aw_cond_f; exact rfl; exact (by assumption)) | refine aw_ret ?_ | refine aw_exit ?_)
    | refine thn_n ?_
    | (refine hK _ _ _ ?_; clear hK K)
    | refine thn_e ?_
    | refine inb_same ?_
    | (clear hK K; refine hK _ _ _ ?_; clear hK K))); all_goals (repeat (clear hK K)))
    all_goals exact fin_r (fin_i rfl rfl)
def stB (ds : List (List Int)) (list : List Int) : Bool := decide (list.length = ds.length) && !list.any fun x => !inB x 0 999
set_option maxHeartbeats 4000000 in
theorem stateCode_ro (ds ap : List (List Int)) (list : List Int) (hS : NbS ds) (hA : NbS ap) (hn : list.length ≤ 1048576) (k : Nat) :
    RO Try.prog 67 [.agg [.dsl 1 (nbL ds), .dsl 1 (nbL ap)], .dsl 1 (list.map inL), .v (.slice none 0 0)] k (.v (.int .i64 (if prB ds ap = false then 1 else if stB ds list = false then 6 else 0))) [] k := by
  have hml : (list.map inL).length = list.length := List.length_map _
  have hnl := nbL_len ds
  have hV := ValidProblem_ro ds ap hS hA
  have hW := allWithin_ro list (list.map inL) 0 999 rfl hn
  have hW0 := allWithin_ro [] [] 0 (IntKind.i64.wrap (((list.map inL).length : Int) - 1)) rfl (by simp)
  refine RO.ofv' Try.func67 Try.ntmps67 rfl (goFn_of Try.func67 rfl (by kernel_rfl)) rfl rfl ?_
  cases h1 : prB ds ap with
  | false =>
    rw [h1] at hV
    ((repeat' (first
    | (show SQ _ _ _ _ _ _ _ _; first | apply sq_nil | (apply q_assign; exact rfl; exact rfl) | (apply q_not; exact rfl; exact rfl))
    | (show SQ _ _ _ _ _ _ _ _; (first | (apply q_ldap; exact rfl; exact rfl; exact (ty rfl); exact rfl; exact rfl; exact (by first | rfl | assumption | ((try simp only [Nat.zero_add]); refine List.getElem?_set_self ?_; (try simp only [List.length_set]); assumption)); exact rfl) | (apply q_box; exact rfl; exact rfl; exact rfl) | (apply q_callU; exact rfl; exact rfl; exact rfl; exact FzL.of rfl; exact hV _)); (try simp only [put, rowsOf, plR, List.all_cons, selE, ovr, setH, del, cellsA, splice, isV, List.nil_append, List.cons_append, List.map_cons, List.map_nil, List.length_cons, List.length_nil, List.set_cons_zero, List.set_cons_succ, List.take_succ_cons, List.take_zero, List.take_nil, List.drop_succ_cons, List.drop_zero, List.drop_nil, List.append_nil, List.all_cons, List.all_nil, Bool.and_true, Bool.true_and, Bool.and_false, Bool.false_and, Nat.reduceAdd, Nat.zero_add, Nat.add_zero, Nat.reduceEqDiff, if_true, if_false, reduceIte]))
    | (show AW _ _ _ _ _ _ _ _; first | refine aw_region ?_ | (refine aw_seqk ?_; intro K hK) | refine aw_block ?_ | (apply aw_cond_t; exact rfl; exact rfl) | refine aw_ret ?_)
    | refine thn_n ?_
    | (refine hK _ _ _ ?_; clear hK K)
    | refine thn_r ?_
    | refine inb_r ?_)); all_goals (repeat (clear hK K)))
    all_goals exact fin_r (fin_i rfl rfl)
  | true =>
    rw [h1] at hV
    cases h2 : (((list.map inL).length : Int) != ((nbL ds).length : Int)) with
    | true =>
      have : stB ds list = false := by
        rw [hml, hnl] at h2
        have : decide (list.length = ds.length) = false := by rw [decide_eq_false_iff_not]; simp at h2; omega
        rw [stB, this]; rfl
      rw [this]
      ((repeat' (first
    | (show SQ _ _ _ _ _ _ _ _; first | apply sq_nil | (apply q_move; exact rfl; exact rfl) | (apply q_assign; exact rfl; exact rfl) | (apply q_pick_t; exact rfl; exact rfl; exact rfl; exact (by first | assumption | exact rfl)) | (apply q_fieldAddr; exact rfl; exact rfl; exact (ty rfl); exact rfl; exact rfl; exact rfl; exact rfl) | (apply q_not; exact rfl; exact rfl) | (apply q_lend; exact rfl; exact rfl; exact (ty rfl); exact rfl) | (apply q_neq; exact rfl; exact rfl; exact rfl) | (apply q_ld1p; exact rfl; exact rfl; exact (ty rfl); exact rfl; exact rfl; exact (by first | rfl | assumption | ((try simp only [Nat.zero_add]); refine List.getElem?_set_self ?_; (try simp only [List.length_set]); assumption)); exact rfl) | (apply q_s; exact rfl; exact rfl; exact rfl; exact (by assumption); exact rfl))
    | (show SQ _ _ _ _ _ _ _ _; (first | (apply q_ldap; exact rfl; exact rfl; exact (ty rfl); exact rfl; exact rfl; exact (by first | rfl | assumption | ((try simp only [Nat.zero_add]); refine List.getElem?_set_self ?_; (try simp only [List.length_set]); assumption)); exact rfl) | (apply q_box; exact rfl; exact rfl; exact rfl) | (apply q_callU; exact rfl; exact rfl; exact rfl; exact FzL.of rfl; exact hV _)); (try simp only [put, rowsOf, plR, List.all_cons, selE, ovr, setH, del, cellsA, splice, isV, List.nil_append, List.cons_append, List.map_cons, List.map_nil, List.length_cons, List.length_nil, List.set_cons_zero, List.set_cons_succ, List.take_succ_cons, List.take_zero, List.take_nil, List.drop_succ_cons, List.drop_zero, List.drop_nil, List.append_nil, List.all_cons, List.all_nil, Bool.and_true, Bool.true_and, Bool.and_false, Bool.false_and, Nat.reduceAdd, Nat.zero_add, Nat.add_zero, Nat.reduceEqDiff, if_true, if_false, reduceIte]))
    | (show AW _ _ _ _ _ _ _ _; first | refine aw_region ?_ | (refine aw_seqk ?_; intro K hK) | refine aw_block ?_ | (apply aw_cond_t; exact rfl; exact rfl) | (apply aw_cond_f; exact rfl; exact rfl) | refine aw_ret ?_)
    | refine thn_n ?_
    | (refine hK _ _ _ ?_; clear hK K)
    | refine thn_r ?_
    | refine inb_r ?_)); all_goals (repeat (clear hK K)))
      all_goals exact fin_r (fin_i rfl rfl)
    | false =>
      have hd : decide (list.length = ds.length) = true := by rw [hml, hnl] at h2; rw [decide_eq_true_eq]; simp at h2; omega
      cases h3 : (!list.any fun x => !inB x 0 999) with
      | false =>
        have : stB ds list = false := by rw [stB, h3]; simp
        rw [this]
        rw [h3] at hW
        ((repeat' (first
    | (show SQ _ _ _ _ _ _ _ _; first | apply sq_nil | (apply q_move; exact rfl; exact rfl) | (apply q_assign; exact rfl; exact rfl) | (apply q_pick_f; exact rfl; exact rfl; exact rfl; exact (by first | assumption | exact rfl)) | (apply q_fieldAddr; exact rfl; exact rfl; exact (ty rfl); exact rfl; exact rfl; exact rfl; exact rfl) | (apply q_not; exact rfl; exact rfl) | (apply q_lend; exact rfl; exact rfl; exact (ty rfl); exact rfl) | (apply q_neq; exact rfl; exact rfl; exact rfl) | (apply q_ld1p; exact rfl; exact rfl; exact (ty rfl); exact rfl; exact rfl; exact (by first | rfl | assumption | ((try simp only [Nat.zero_add]); refine List.getElem?_set_self ?_; (try simp only [List.length_set]); assumption)); exact rfl) | (apply q_g; exact rfl; exact rfl; exact rfl; exact (by assumption)))
    | (show SQ _ _ _ _ _ _ _ _; (first | (apply q_ldap; exact rfl; exact rfl; exact (ty rfl); exact rfl; exact rfl; exact (by first | rfl | assumption | ((try simp only [Nat.zero_add]); refine List.getElem?_set_self ?_; (try simp only [List.length_set]); assumption)); exact rfl) | (apply q_box; exact rfl; exact rfl; exact rfl) | (apply q_callU; exact rfl; exact rfl; exact rfl; exact FzL.of rfl; exact hV _) | (apply q_callU; exact rfl; exact rfl; exact rfl; exact FzL.of rfl; exact hW _)); (try simp only [put, rowsOf, plR, List.all_cons, selE, ovr, setH, del, cellsA, splice, isV, List.nil_append, List.cons_append, List.map_cons, List.map_nil, List.length_cons, List.length_nil, List.set_cons_zero, List.set_cons_succ, List.take_succ_cons, List.take_zero, List.take_nil, List.drop_succ_cons, List.drop_zero, List.drop_nil, List.append_nil, List.all_cons, List.all_nil, Bool.and_true, Bool.true_and, Bool.and_false, Bool.false_and, Nat.reduceAdd, Nat.zero_add, Nat.add_zero, Nat.reduceEqDiff, if_true, if_false, reduceIte]))
    | (show AW _ _ _ _ _ _ _ _; first | refine aw_region ?_ | (refine aw_seqk ?_; intro K hK) | refine aw_block ?_ | (apply aw_cond_t; exact rfl; exact rfl) | (apply aw_cond_f; exact rfl; exact rfl) | refine aw_ret ?_)
    | refine thn_n ?_
    | (refine hK _ _ _ ?_; clear hK K)
    | refine thn_r ?_
    | refine inb_r ?_)); all_goals (repeat (clear hK K)))
        all_goals exact fin_r (fin_i rfl rfl)
      | true =>
        have : stB ds list = true := by rw [stB, h3, hd]; rfl
        rw [this]
        rw [h3] at hW
        ((repeat' (first
    | (show SQ _ _ _ _ _ _ _ _; first | apply sq_nil | (apply q_move; exact rfl; exact rfl) | (apply q_assign; exact rfl; exact rfl) | (apply q_pick_f; exact rfl; exact rfl; exact rfl; exact (by first | assumption | exact rfl)) | (apply q_fieldAddr; exact rfl; exact rfl; exact (ty rfl); exact rfl; exact rfl; exact rfl; exact rfl) | (apply q_not; exact rfl; exact rfl) | (apply q_lend; exact rfl; exact rfl; exact (ty rfl); exact rfl) | (apply q_sub; exact rfl; exact rfl; exact rfl) | (apply q_neq; exact rfl; exact rfl; exact rfl) | (apply q_ld1p; exact rfl; exact rfl; exact (ty rfl); exact rfl; exact rfl; exact (by first | rfl | assumption | ((try simp only [Nat.zero_add]); refine List.getElem?_set_self ?_; (try simp only [List.length_set]); assumption)); exact rfl) | (apply q_g; exact rfl; exact rfl; exact rfl; exact (by assumption)))
    | (show SQ _ _ _ _ _ _ _ _; (first | (apply q_ldap; exact rfl; exact rfl; exact (ty rfl); exact rfl; exact rfl; exact (by first | rfl | assumption | ((try simp only [Nat.zero_add]); refine List.getElem?_set_self ?_; (try simp only [List.length_set]); assumption)); exact rfl) | (apply q_box; exact rfl; exact rfl; exact rfl) | (apply q_callU; exact rfl; exact rfl; exact rfl; exact FzL.of rfl; exact hV _) | (apply q_callU; exact rfl; exact rfl; exact rfl; exact FzL.of rfl; exact hW _) | (apply q_callU; exact rfl; exact rfl; exact rfl; rotate_left; exact hW0 _; rotate_right; focus ((repeat' (first | exact FzL.nil | exact (by assumption : FzC _) _ | refine FzL.cons ?_ ?_ | exact Fz.of rfl | exact Fz.nil | exact Fz.emp | (apply Fz.fnC; assumption) | (apply Fz.sl2; exact rfl; exact (by first | omega | (simp; done) | (simp; omega)); first | exact rfl | exact dt_full (by first | omega | (simp; done) | (simp; omega)) | assumption) | apply Fz.agg | (apply Fz.ptrL; exact rfl; first | exact rfl | assumption) | apply Fz.fnL)); done))); (try simp only [put, rowsOf, plR, List.all_cons, selE, ovr, setH, del, cellsA, splice, isV, List.nil_append, List.cons_append, List.map_cons, List.map_nil, List.length_cons, List.length_nil, List.set_cons_zero, List.set_cons_succ, List.take_succ_cons, List.take_zero, List.take_nil, List.drop_succ_cons, List.drop_zero, List.drop_nil, List.append_nil, List.all_cons, List.all_nil, Bool.and_true, Bool.true_and, Bool.and_false, Bool.false_and, Nat.reduceAdd, Nat.zero_add, Nat.add_zero, Nat.reduceEqDiff, if_true, if_false, reduceIte]))
    | (show AW _ _ _ _ _ _ _ _; first | refine aw_region ?_ | (refine aw_seqk ?_; intro K hK) | refine aw_block ?_ | (apply aw_cond_f; exact rfl; exact rfl) | refine aw_ret ?_ | refine aw_skip ?_)
    | refine thn_n ?_
    | (refine hK _ _ _ ?_; clear hK K)
    | refine inb_n ?_)); all_goals (repeat (clear hK K)))
        all_goals exact fin_r (fin_i rfl rfl)
end Go.Proofs.Yteknfaldpajlpaa.Nb

namespace Go.Proofs.Yteknfaldpajlpaa.Fr
open Go.ChangeShapes Go.WideShapes Go.ChangeAt Go.RowKit Go.Deep
open Go.ChangeMaps (open_string shut_string)
set_option linter.unusedSimpArgs false
def SlV {α : Type} (cV : α → List Value) (sz : Nat) (w : World) (v : Value) (xs : List α) : Prop :=
  Aw.VR (fun k => k < w.heap.size) w (fun _ => ⟨0, 0, 0, false⟩) Aw.NoS (.dsl sz (xs.map fun a => (cV a).map .v)) v ∧ xs.length ≤ 9223372036854775807
section
variable {P : Program} {H : Type} {enc : TypeId × Value → H} {W : World} {r : Reach} {b0 base : Nat} {spare : Nat → Bool} {held : Bool} {v : Value} {d : DataW H} {p : List MemPlace}
theorem sl_open {t e : TypeId} {sz : Nat} {α : Type} [Inhabited α] {cV : α → List Value} {Q : α → Prop} {fuel : Nat} {x : DataW H × List MemPlace} (hU : P.underlying t = some (.slice e)) (hcells : P.cellsOf e = sz) (hsz : 0 < sz) (hlen : ∀ a, (cV a).length = sz)
    (hone : ∀ a, ∀ y ∈ cV a, y.oneCell' = true) (hel : ∀ fuel cs x, DataW.trod enc P W base spare held fuel e cs = some x → ∃ a, cs = cV a ∧ Q a) (h : DataW.trod enc P W base spare held fuel t [v] = some x) :
    ∃ xs : List α, SlV cV sz W v xs ∧ ∀ a ∈ xs, Q a := by
  rcases open_slice hU h with ⟨hc, _⟩ | ⟨a, len, cap, m, n, D, Pl, hc, hb, hl, hm, hmm, _, hels⟩
  · simp only [List.cons.injEq, and_true] at hc
    subst hc
    exact ⟨[], ⟨.dsl0 _ _ _ _, by simp⟩, by simp⟩
  · simp only [List.cons.injEq, and_true] at hc
    subst hc
    have hlm : len ≤ m := by rw [hmm]; split <;> omega
    obtain ⟨f, hf2⟩ := choose_lt (n := len) (p := fun i (l : α) => W.cells? base (a.add (i * sz)) sz = some (cV l) ∧ Q l) fun i hi => by
      obtain ⟨cs', h1, h2⟩ := hels i (by omega)
      rw [hcells] at h1
      obtain ⟨l, rfl, hs⟩ := hel _ _ _ h2
      exact ⟨l, h1, hs⟩
    refine ⟨(List.range len).map f, ⟨?_, by simp only [maxLen] at hm; simp; omega⟩, fun l hl => ?_⟩
    · obtain ⟨b, off, spot⟩ := a
      cases len with
      | zero => exact .dsl0 _ _ _ _
      | succ len =>
        have hc0 : ∀ r, r < len + 1 → ∀ j, j < sz → W.cell? ((⟨b, off, spot⟩ : Addr).add (r * sz + j)) = (cV (f r))[j]? := fun r hr j hj => by
          obtain ⟨_, _, hc⟩ := World.cells?_some (hf2 r hr).1
          rw [← add_add]
          exact hc j hj
        obtain ⟨y0, hy0⟩ : ∃ y0, (cV (f 0))[0]? = some y0 := ⟨_, List.getElem?_eq_getElem (by rw [hlen]; exact hsz)⟩
        have h2 : W.cell? ((⟨b, off, spot⟩ : Addr).add 0) = some y0 := by
          have := hc0 0 (by omega) 0 hsz
          simp only [Nat.zero_mul, Nat.add_zero] at this
          rw [this, hy0]
        have hspot : spot = none := by simpa [Addr.add] using World.cell?_spot h2
        subst hspot
        have hlt : b < W.heap.size := block_lt_of_cell h2
        have get : ∀ (l : α) (j : Nat) (cv : Aw.AV), ((cV l).map Aw.AV.v)[j]? = some cv → ∃ y, (cV l)[j]? = some y ∧ cv = .v y ∧ y.oneCell' = true := fun l j cv h => by
          rw [List.getElem?_map] at h
          cases hj : (cV l)[j]? with
          | none => simp [hj] at h
          | some y =>
            simp only [hj, Option.map_some, Option.some.injEq] at h
            exact ⟨y, rfl, h.symm, hone l y (List.mem_of_getElem? hj)⟩
        refine .dsl _ sz _ _ b off cap (fun r j => ((cV (f r))[j]?).getD undef) (by simp) (by simpa using hl) hlt (fun r row hr => ?_) (fun r row j cv hr hj => ?_) (fun r row j cv hr hj => ?_)
        all_goals
          rw [List.getElem?_map, List.getElem?_map] at hr
          have hrl : r < len + 1 := by
            rcases Nat.lt_or_ge r (len + 1) with h | h
            · exact h
            · rw [List.getElem?_eq_none (by simpa using h)] at hr; simp at hr
          rw [List.getElem?_range hrl] at hr
          simp only [Option.map_some, Option.some.injEq] at hr
          subst hr
        · simp [hlen]
        · obtain ⟨y, hy, rfl, hone⟩ := get _ _ _ hj
          have hjl : j < sz := by rw [← hlen (f r)]; exact (List.getElem?_eq_some_iff.1 hy).1
          have := hc0 r hrl j hjl
          rw [Go.WideShapes.add_plain] at this
          simp only [hy, Option.getD_some]
          refine ⟨?_, hone⟩
          rw [Nat.add_assoc, this, hy]
        · obtain ⟨y, hy, rfl, hone⟩ := get _ _ _ hj
          simp only [hy, Option.getD_some]
          exact .v _ _
    · obtain ⟨i, hi, rfl⟩ := List.mem_map.1 hl
      exact (hf2 i (by simpa using hi)).2
theorem sl_cell {t e : TypeId} (hU : P.underlying t = some (.slice e)) (hv : Value.okWide P W r b0 t v) : v.cells.toList = [v] := by
  have hsl : ∃ a n c, v = .slice a n c := by
    simp only [Value.okWide, hU, Cell.okWide] at hv
    cases v <;> simp_all [Cell.ok]
  obtain ⟨a, n, c, rfl⟩ := hsl
  rfl
end
end Go.Proofs.Yteknfaldpajlpaa.Fr

namespace Go.Proofs.Yteknfaldpajlpaa.Nb
open Go Go.RowKit Go.Proofs.Yteknfaldpajlpaa.Aw Go.Proofs.Yteknfaldpajlpaa.In Go.Proofs.Yteknfaldpajlpaa.Il
set_option linter.unusedSimpArgs false
set_option linter.unusedVariables false
set_option linter.unusedSectionVars false
attribute [local irreducible] AW SQ Step RO RC DE Thn InB
theorem canon {H : Hp} {O : Hp} {b1 b2 : Nat} {L1 L2 : List Blk} (ho : subE H O) (h1 : NstIn H b1 L1) (h2 : NstIn H b2 L2) : ∀ i c, Aw.look (O ++ (nst b1 L1 ++ nst b2 L2)) i = some c → Aw.look H i = some c := by
  intro i c h
  have hm := look_mem h
  rcases List.mem_append.1 hm with hm | hm
  · clear h
    induction O with
    | nil => cases hm
    | cons p O ih =>
      obtain ⟨ha, hb⟩ := ho
      rcases List.mem_cons.1 hm with rfl | hm
      · exact ha
      · exact ih hb (List.mem_append_left _ hm) hm
  · rcases List.mem_append.1 hm with hm | hm
    · obtain ⟨j, g1, g2⟩ := nst_mem _ _ _ hm
      dsimp only at g1 g2
      rw [g2]; exact h1 j c g1
    · obtain ⟨j, g1, g2⟩ := nst_mem _ _ _ hm
      dsimp only at g1 g2
      rw [g2]; exact h2 j c g1
theorem canon1 {H : Hp} {O : Hp} {b1 : Nat} {L1 : List Blk} (ho : subE H O) (h1 : NstIn H b1 L1) : ∀ i c, Aw.look (O ++ nst b1 L1) i = some c → Aw.look H i = some c := by
  have := canon (b2 := 0) (L2 := []) ho h1 (fun j b h => by simp at h)
  rwa [nst, List.append_nil] at this
theorem NstIn.del {base i : Nat} {bs : List Blk} {H : Hp} (h : i < base ∨ base + bs.length ≤ i) (hn : NstIn H base bs) : NstIn (Aw.del H i) base bs := fun j c hc => by
  have := nlt hc
  rw [look_del_ne _ (by omega)]; exact hn j c hc
end Go.Proofs.Yteknfaldpajlpaa.Nb

namespace Go.Proofs.Yteknfaldpajlpaa.Nb
open Go Go.RowKit Go.Proofs.Yteknfaldpajlpaa.Aw Go.Proofs.Yteknfaldpajlpaa.In Go.Proofs.Yteknfaldpajlpaa.Il
set_option linter.unusedSimpArgs false
set_option linter.unusedVariables false
set_option linter.unusedSectionVars false
attribute [local irreducible] AW SQ Step RO RC DE Thn InB
theorem snd_of {ds ap : List (List Int)} {list frz : List Int} (hS : NbS ds) (hA : NbS ap) (h : prB ds ap = true) (h2 : stB ds list = true) (hf : frz.length ≤ 1048576) : Snd ds ap list frz := by
  simp only [prB, Bool.and_eq_true, decide_eq_true_eq, domsB, Bool.not_eq_true', List.any_eq_false, List.all_eq_true, List.mem_range] at h
  obtain ⟨⟨⟨⟨a1, a2⟩, a3⟩, a4⟩, a5⟩ := h
  simp only [stB, Bool.and_eq_true, decide_eq_true_eq, Bool.not_eq_true', List.any_eq_false] at h2
  obtain ⟨c1, c2⟩ := h2
  refine ⟨hS, hA, a2, a4, c1, fun i hi => ?_, fun d hd => ?_, fun x hx => ?_, hf⟩
  · have := a5 i hi
    simp only [rowB, Bool.and_eq_true, decide_eq_true_eq] at this
    exact this.1.1.1
  · have := a3 d hd
    have hd2 : domB d = true := by
      cases hx : domB d with
      | true => rfl
      | false => rw [hx] at this; exact absurd rfl this
    simp only [domB, Bool.and_eq_true, decide_eq_true_eq, Bool.not_eq_true', List.any_eq_false] at hd2
    have this := hd2
    refine ⟨this.1.1.2, fun x hx => ?_⟩
    have := this.2 x hx
    simpa [inB] using this
  · have := c2 x hx
    simpa [inB] using this
def ResE (item : Nat) (q q' : Bool × Rs) : Prop := q.1 = q'.1 ∧ q.2.1 = q'.2.1 ∧ q.2.2.take item = q'.2.2.take item ∧ (q.1 = true → q = q')
theorem ResE.refl {item : Nat} {q : Bool × Rs} : ResE item q q := ⟨rfl, rfl, rfl, fun _ => rfl⟩
end Go.Proofs.Yteknfaldpajlpaa.Nb

namespace Go.Proofs.Yteknfaldpajlpaa.Nb
open Go Go.RowKit Go.Proofs.Yteknfaldpajlpaa.Aw Go.Proofs.Yteknfaldpajlpaa.In Go.Proofs.Yteknfaldpajlpaa.Il
set_option linter.unusedSimpArgs false
set_option linter.unusedVariables false
set_option linter.unusedSectionVars false
attribute [local irreducible] AW SQ Step RO RC DE Thn InB
section
variable (ds ap : List (List Int)) (list frz : List Int)
def topF : Nat → Nat → Rs → Bool × Rs
  | 0, _, st => (false, st)
  | k + 1, m, st => if (repF ds ap list frz list.length (m : Int) st).1 = true then repF ds ap list frz list.length (m : Int) st else if (repF ds ap list frz list.length (m : Int) st).2.1 < 0 then repF ds ap list frz list.length (m : Int) st else topF k (m + 1) (repF ds ap list frz list.length (m : Int) st).2
end
def sh1 : Nat → Nat := fun z => z + 1
def frB (list frz : List Int) : Bool := incB frz && !frz.any fun x => !inB x 0 ((list.length : Int) - 1)
section
variable (ds ap : List (List Int)) (list frz : List Int) (hS : NbS ds) (hA : NbS ap) (hn : list.length ≤ 1048576) (hf : frz.length ≤ 1048576)
include hS hA hn hf
set_option maxHeartbeats 4000000 in
theorem Rep_bad_ro (bu : Int) (h : prB ds ap = false) (k : Nat) : RO Try.prog 30 [.agg [.dsl 1 (nbL ds), .dsl 1 (nbL ap)], .dsl 1 (list.map inL), .dsl 1 (frz.map inL), .v (.int .i64 bu)] k (.tup [.v (.slice none 0 0), .v (.int .i64 0), .v (.int .i64 1)]) [] k := by
  have hV := stateCode_ro ds ap list hS hA hn
  rw [if_pos h] at hV
  have b1 : ((1 : Int) == 1) = true := rfl
  refine RO.ofp Try.func30 Try.ntmps30 rfl (goFn_of Try.func30 rfl (by kernel_rfl)) rfl rfl rfl ?_
  ((repeat' (first
    | (show SQ _ _ _ _ _ _ _ _; first | apply sq_nil | (apply q_move; exact rfl; exact rfl) | (apply q_assign; exact rfl; exact rfl) | (apply q_eql; exact rfl; exact rfl; exact rfl))
    | (show SQ _ _ _ _ _ _ _ _; (first | (apply q_ldap; exact rfl; exact rfl; exact (ty rfl); exact rfl; exact rfl; exact (by first | rfl | assumption | ((try simp only [Nat.zero_add]); refine List.getElem?_set_self ?_; (try simp only [List.length_set]); assumption)); exact rfl) | (apply q_box; exact rfl; exact rfl; exact rfl) | (apply q_callU; exact rfl; exact rfl; exact rfl; exact FzL.of rfl; exact hV _)); (try simp only [put, rowsOf, plR, List.all_cons, selE, ovr, setH, del, cellsA, splice, isV, List.nil_append, List.cons_append, List.map_cons, List.map_nil, List.length_cons, List.length_nil, List.set_cons_zero, List.set_cons_succ, List.take_succ_cons, List.take_zero, List.take_nil, List.drop_succ_cons, List.drop_zero, List.drop_nil, List.append_nil, List.all_cons, List.all_nil, Bool.and_true, Bool.true_and, Bool.and_false, Bool.false_and, Nat.reduceAdd, Nat.zero_add, Nat.add_zero, Nat.reduceEqDiff, if_true, if_false, reduceIte]))
    | (show AW _ _ _ _ _ _ _ _; first | refine aw_region ?_ | (refine aw_seqk ?_; intro K hK) | refine aw_block ?_ | (apply aw_cond_t; exact rfl; exact rfl) | refine aw_ret ?_)
    | refine thn_n ?_
    | (refine hK _ _ _ ?_; clear hK K)
    | refine thn_r ?_
    | refine inb_r ?_)); all_goals (repeat (clear hK K)))
  all_goals refine fin_r (fin_p (.r3 _ _ _ _ _ _ (.tmp _ _ rfl) (.tmp _ _ rfl) (.tmp _ _ rfl)) ?_ rfl rfl rfl)
  all_goals rfl
set_option maxHeartbeats 4000000 in
theorem Rep_rng_ro (bu : Int) (h : prB ds ap = true) (h2 : inB bu 1 20000 = false) (k : Nat) : RO Try.prog 30 [.agg [.dsl 1 (nbL ds), .dsl 1 (nbL ap)], .dsl 1 (list.map inL), .dsl 1 (frz.map inL), .v (.int .i64 bu)] k (.tup [.v (.slice none 0 0), .v (.int .i64 0), .v (.int .i64 2)]) [] k := by
  have hV := stateCode_ro ds ap list hS hA hn
  rw [if_neg (by rw [h]; simp)] at hV
  have hB := budgetValid_ro ds hS bu
  have b2 : (!inB bu 1 20000) = true := by rw [h2]; rfl
  have b1 : ((if stB ds list = false then (6 : Int) else 0) == 1) = false := by split <;> rfl
  refine RO.ofp Try.func30 Try.ntmps30 rfl (goFn_of Try.func30 rfl (by kernel_rfl)) rfl rfl rfl ?_
  ((repeat' (first
    | (show SQ _ _ _ _ _ _ _ _; first | apply sq_nil | (apply q_move; exact rfl; exact rfl) | (apply q_assign; exact rfl; exact rfl) | (apply q_not; exact rfl; exact rfl) | (apply q_eql; exact rfl; exact rfl; exact rfl))
    | (show SQ _ _ _ _ _ _ _ _; (first | (apply q_ldap; exact rfl; exact rfl; exact (ty rfl); exact rfl; exact rfl; exact (by first | rfl | assumption | ((try simp only [Nat.zero_add]); refine List.getElem?_set_self ?_; (try simp only [List.length_set]); assumption)); exact rfl) | (apply q_box; exact rfl; exact rfl; exact rfl) | (apply q_callU; exact rfl; exact rfl; exact rfl; exact FzL.of rfl; exact hV _) | (apply q_callU; exact rfl; exact rfl; exact rfl; exact FzL.of rfl; exact hB _)); (try simp only [put, rowsOf, plR, List.all_cons, selE, ovr, setH, del, cellsA, splice, isV, List.nil_append, List.cons_append, List.map_cons, List.map_nil, List.length_cons, List.length_nil, List.set_cons_zero, List.set_cons_succ, List.take_succ_cons, List.take_zero, List.take_nil, List.drop_succ_cons, List.drop_zero, List.drop_nil, List.append_nil, List.all_cons, List.all_nil, Bool.and_true, Bool.true_and, Bool.and_false, Bool.false_and, Nat.reduceAdd, Nat.zero_add, Nat.add_zero, Nat.reduceEqDiff, if_true, if_false, reduceIte]))
    | (show AW _ _ _ _ _ _ _ _; first | refine aw_region ?_ | (refine aw_seqk ?_; intro K hK) | refine aw_block ?_ | (apply aw_cond_t; exact rfl; exact (by assumption)) | (apply aw_cond_f; exact rfl; exact (by assumption)) | refine aw_ret ?_)
    | refine thn_n ?_
    | (refine hK _ _ _ ?_; clear hK K)
    | refine thn_r ?_
    | refine inb_r ?_)); all_goals (repeat (clear hK K)))
  all_goals refine fin_r (fin_p (.r3 _ _ _ _ _ _ (.tmp _ _ rfl) (.tmp _ _ rfl) (.tmp _ _ rfl)) ?_ rfl rfl rfl)
  all_goals rfl
set_option maxHeartbeats 4000000 in
theorem Rep_st_ro (bu : Int) (h : prB ds ap = true) (h2 : inB bu 1 20000 = true) (h3 : stB ds list = false) (k : Nat) : RO Try.prog 30 [.agg [.dsl 1 (nbL ds), .dsl 1 (nbL ap)], .dsl 1 (list.map inL), .dsl 1 (frz.map inL), .v (.int .i64 bu)] k (.tup [.v (.slice none 0 0), .v (.int .i64 0), .v (.int .i64 6)]) [] k := by
  have hV := stateCode_ro ds ap list hS hA hn
  rw [if_neg (by rw [h]; simp), if_pos h3] at hV
  have hB := budgetValid_ro ds hS bu
  have b2 : (!inB bu 1 20000) = false := by rw [h2]; rfl
  have b1 : ((6 : Int) == 1) = false := rfl
  have b3 : ((6 : Int) != 0) = true := rfl
  refine RO.ofp Try.func30 Try.ntmps30 rfl (goFn_of Try.func30 rfl (by kernel_rfl)) rfl rfl rfl ?_
  ((repeat' (first
    | (show SQ _ _ _ _ _ _ _ _; first | apply sq_nil | (apply q_move; exact rfl; exact rfl) | (apply q_assign; exact rfl; exact rfl) | (apply q_not; exact rfl; exact rfl) | (apply q_eql; exact rfl; exact rfl; exact rfl) | (apply q_neq; exact rfl; exact rfl; exact rfl))
    | (show SQ _ _ _ _ _ _ _ _; (first | (apply q_ldap; exact rfl; exact rfl; exact (ty rfl); exact rfl; exact rfl; exact (by first | rfl | assumption | ((try simp only [Nat.zero_add]); refine List.getElem?_set_self ?_; (try simp only [List.length_set]); assumption)); exact rfl) | (apply q_box; exact rfl; exact rfl; exact rfl) | (apply q_callU; exact rfl; exact rfl; exact rfl; exact FzL.of rfl; exact hV _) | (apply q_callU; exact rfl; exact rfl; exact rfl; exact FzL.of rfl; exact hB _)); (try simp only [put, rowsOf, plR, List.all_cons, selE, ovr, setH, del, cellsA, splice, isV, List.nil_append, List.cons_append, List.map_cons, List.map_nil, List.length_cons, List.length_nil, List.set_cons_zero, List.set_cons_succ, List.take_succ_cons, List.take_zero, List.take_nil, List.drop_succ_cons, List.drop_zero, List.drop_nil, List.append_nil, List.all_cons, List.all_nil, Bool.and_true, Bool.true_and, Bool.and_false, Bool.false_and, Nat.reduceAdd, Nat.zero_add, Nat.add_zero, Nat.reduceEqDiff, if_true, if_false, reduceIte]))
    | (show AW _ _ _ _ _ _ _ _; first | refine aw_region ?_ | (refine aw_seqk ?_; intro K hK) | refine aw_block ?_ | (apply aw_cond_t; exact rfl; exact rfl) | (apply aw_cond_f; exact rfl; exact rfl) | (apply aw_cond_f; exact rfl; exact (by assumption)) | refine aw_ret ?_)
    | refine thn_n ?_
    | (refine hK _ _ _ ?_; clear hK K)
    | refine thn_r ?_
    | refine inb_r ?_)); all_goals (repeat (clear hK K)))
  all_goals refine fin_r (fin_p (.r3 _ _ _ _ _ _ (.tmp _ _ rfl) (.tmp _ _ rfl) (.tmp _ _ rfl)) ?_ rfl rfl rfl)
  all_goals rfl
set_option maxHeartbeats 4000000 in
theorem Rep_frz_ro (bu : Int) (h : prB ds ap = true) (h2 : inB bu 1 20000 = true) (h3 : stB ds list = true) (h4 : frB list frz = false) (k : Nat) : RO Try.prog 30 [.agg [.dsl 1 (nbL ds), .dsl 1 (nbL ap)], .dsl 1 (list.map inL), .dsl 1 (frz.map inL), .v (.int .i64 bu)] k (.tup [.v (.slice none 0 0), .v (.int .i64 0), .v (.int .i64 6)]) [] k := by
  have hml : (list.map inL).length = list.length := List.length_map _
  have hV := stateCode_ro ds ap list hS hA hn
  rw [if_neg (by rw [h]; simp), if_neg (by rw [h3]; simp)] at hV
  have hB := budgetValid_ro ds hS bu
  have hI := increasing_ro frz hf
  have hW := allWithin_ro frz (frz.map inL) 0 (IntKind.i64.wrap (((list.map inL).length : Int) - 1)) rfl hf
  have hw : IntKind.i64.wrap (((list.map inL).length : Int) - 1) = (list.length : Int) - 1 := by rw [hml, IntWalk.i64_in _ (by omega)]
  have h4' : (incB frz && !frz.any fun x => !inB x 0 (IntKind.i64.wrap (((list.map inL).length : Int) - 1))) = false := by rw [hw]; exact h4
  generalize (!frz.any fun x => !inB x 0 (IntKind.i64.wrap (((list.map inL).length : Int) - 1))) = u2 at *
  generalize incB frz = u1 at *
  have b2 : (!inB bu 1 20000) = false := by rw [h2]; rfl
  have b1 : ((0 : Int) == 1) = false := rfl
  have b3 : ((0 : Int) != 0) = false := rfl
  refine RO.ofp Try.func30 Try.ntmps30 rfl (goFn_of Try.func30 rfl (by kernel_rfl)) rfl rfl rfl ?_
  cases u1 with
  | false =>
    ((repeat' (first
    | (show SQ _ _ _ _ _ _ _ _; first | apply sq_nil | (apply q_move; exact rfl; exact rfl) | (apply q_assign; exact rfl; exact rfl) | (apply q_pick_t; exact rfl; exact rfl; exact rfl; exact (by first | assumption | exact rfl)) | (apply q_not; exact rfl; exact rfl) | (apply q_eql; exact rfl; exact rfl; exact rfl) | (apply q_neq; exact rfl; exact rfl; exact rfl) | (apply q_s; exact rfl; exact rfl; exact rfl; exact rfl; exact rfl))
    | (show SQ _ _ _ _ _ _ _ _; (first | (apply q_ldap; exact rfl; exact rfl; exact (ty rfl); exact rfl; exact rfl; exact (by first | rfl | assumption | ((try simp only [Nat.zero_add]); refine List.getElem?_set_self ?_; (try simp only [List.length_set]); assumption)); exact rfl) | (apply q_box; exact rfl; exact rfl; exact rfl) | (apply q_callU; exact rfl; exact rfl; exact rfl; exact FzL.of rfl; exact hV _) | (apply q_callU; exact rfl; exact rfl; exact rfl; exact FzL.of rfl; exact hB _) | (apply q_callU; exact rfl; exact rfl; exact rfl; exact FzL.of rfl; exact hI _)); (try simp only [put, rowsOf, plR, List.all_cons, selE, ovr, setH, del, cellsA, splice, isV, List.nil_append, List.cons_append, List.map_cons, List.map_nil, List.length_cons, List.length_nil, List.set_cons_zero, List.set_cons_succ, List.take_succ_cons, List.take_zero, List.take_nil, List.drop_succ_cons, List.drop_zero, List.drop_nil, List.append_nil, List.all_cons, List.all_nil, Bool.and_true, Bool.true_and, Bool.and_false, Bool.false_and, Nat.reduceAdd, Nat.zero_add, Nat.add_zero, Nat.reduceEqDiff, if_true, if_false, reduceIte]))
    | (show AW _ _ _ _ _ _ _ _; first | refine aw_region ?_ | (refine aw_seqk ?_; intro K hK) | refine aw_block ?_ | (apply aw_cond_t; exact rfl; exact rfl) | (apply aw_cond_f; exact rfl; exact rfl) | (apply aw_cond_f; exact rfl; exact (by assumption)) | refine aw_ret ?_)
    | refine thn_n ?_
    | (refine hK _ _ _ ?_; clear hK K)
    | refine thn_r ?_
    | refine inb_r ?_)); all_goals (repeat (clear hK K)))
    all_goals refine fin_r (fin_p (.r3 _ _ _ _ _ _ (.tmp _ _ rfl) (.tmp _ _ rfl) (.tmp _ _ rfl)) ?_ rfl rfl rfl)
    all_goals rfl
  | true =>
    cases u2 with
    | true => cases h4'
    | false =>
      ((repeat' (first
    | (show SQ _ _ _ _ _ _ _ _; first | apply sq_nil | (apply q_move; exact rfl; exact rfl) | (apply q_assign; exact rfl; exact rfl) | (apply q_pick_f; exact rfl; exact rfl; exact rfl; exact (by first | assumption | exact rfl)) | (apply q_not; exact rfl; exact rfl) | (apply q_lend; exact rfl; exact rfl; exact (ty rfl); exact rfl) | (apply q_sub; exact rfl; exact rfl; exact rfl) | (apply q_eql; exact rfl; exact rfl; exact rfl) | (apply q_neq; exact rfl; exact rfl; exact rfl) | (apply q_g; exact rfl; exact rfl; exact rfl; exact (by assumption)))
    | (show SQ _ _ _ _ _ _ _ _; (first | (apply q_ldap; exact rfl; exact rfl; exact (ty rfl); exact rfl; exact rfl; exact (by first | rfl | assumption | ((try simp only [Nat.zero_add]); refine List.getElem?_set_self ?_; (try simp only [List.length_set]); assumption)); exact rfl) | (apply q_box; exact rfl; exact rfl; exact rfl) | (apply q_callU; exact rfl; exact rfl; exact rfl; exact FzL.of rfl; exact hV _) | (apply q_callU; exact rfl; exact rfl; exact rfl; exact FzL.of rfl; exact hB _) | (apply q_callU; exact rfl; exact rfl; exact rfl; exact FzL.of rfl; exact hI _) | (apply q_callU; exact rfl; exact rfl; exact rfl; exact FzL.of rfl; exact hW _)); (try simp only [put, rowsOf, plR, List.all_cons, selE, ovr, setH, del, cellsA, splice, isV, List.nil_append, List.cons_append, List.map_cons, List.map_nil, List.length_cons, List.length_nil, List.set_cons_zero, List.set_cons_succ, List.take_succ_cons, List.take_zero, List.take_nil, List.drop_succ_cons, List.drop_zero, List.drop_nil, List.append_nil, List.all_cons, List.all_nil, Bool.and_true, Bool.true_and, Bool.and_false, Bool.false_and, Nat.reduceAdd, Nat.zero_add, Nat.add_zero, Nat.reduceEqDiff, if_true, if_false, reduceIte]))
    | (show AW _ _ _ _ _ _ _ _; first | refine aw_region ?_ | (refine aw_seqk ?_; intro K hK) | refine aw_block ?_ | (apply aw_cond_t; exact rfl; exact rfl) | (apply aw_cond_f; exact rfl; exact rfl) | (apply aw_cond_f; exact rfl; exact (by assumption)) | refine aw_ret ?_)
    | refine thn_n ?_
    | (refine hK _ _ _ ?_; clear hK K)
    | refine thn_r ?_
    | refine inb_r ?_)); all_goals (repeat (clear hK K)))
      all_goals refine fin_r (fin_p (.r3 _ _ _ _ _ _ (.tmp _ _ rfl) (.tmp _ _ rfl) (.tmp _ _ rfl)) ?_ rfl rfl rfl)
      all_goals rfl
theorem Rep_okR (bu : Int) (h : prB ds ap = true) (h2 : inB bu 1 20000 = true) (h3 : stB ds list = true) (h4 : frB list frz = true) (hv : (topF ds ap list frz (list.length + 1) 0 (bu, [])).1 = true) (k : Nat) : RO Try.prog 30 [.agg [.dsl 1 (nbL ds), .dsl 1 (nbL ap)], .dsl 1 (list.map inL), .dsl 1 (frz.map inL), .v (.int .i64 bu)] k (.tup [.sl k 0 list.length, .v (.int .i64 (chgN (topF ds ap list frz (list.length + 1) 0 (bu, [])).2.2 list list.length)), .v (.int .i64 0)]) [(k, ⟨2, 1, true, (topF ds ap list frz (list.length + 1) 0 (bu, [])).2.2.map inL⟩)] (k + 1) := by
  have hml : (list.map inL).length = list.length := List.length_map _
  have hP := snd_of hS hA h h3 hf
  have hN := hP.n
  have hL := hP.l
  have hV := stateCode_ro ds ap list hS hA hn
  rw [if_neg (by rw [h]; simp), if_neg (by rw [h3]; simp)] at hV
  have hB := budgetValid_ro ds hS bu
  have hI := increasing_ro frz hf
  have hW := allWithin_ro frz (frz.map inL) 0 (IntKind.i64.wrap (((list.map inL).length : Int) - 1)) rfl hf
  have hw : IntKind.i64.wrap (((list.map inL).length : Int) - 1) = (list.length : Int) - 1 := by rw [hml, IntWalk.i64_in _ (by omega)]
  obtain ⟨h41, h42⟩ : incB frz = true ∧ (!frz.any fun x => !inB x 0 (IntKind.i64.wrap (((list.map inL).length : Int) - 1))) = true := by rw [hw]; simpa only [frB, Bool.and_eq_true] using h4
  rw [h41] at hI
  rw [h42] at hW
  have b2 : (!inB bu 1 20000) = false := by rw [h2]; rfl
  have b1 : ((0 : Int) == 1) = false := rfl
  have b3 : ((0 : Int) != 0) = false := rfl
  have hbu : 1 ≤ bu ∧ bu ≤ 20000 := by simpa [inB] using h2
  have hw1 : IntKind.i64.wrap (((list.map inL).length : Int) + 1) = ((list.length + 1 : Nat) : Int) := by rw [hml, IntWalk.i64_in _ (by omega)]; omega
  generalize hQQ : topF ds ap list frz (list.length + 1) 0 (bu, []) = Q at *
  refine RO.ofm (.tup [.sl 0 0 list.length, .v (.int .i64 (chgN Q.2.2 list list.length)), .v (.int .i64 0)]) ([(0, ⟨2, 1, true, Q.2.2.map inL⟩)]) 1 Try.func30 Try.ntmps30 rfl (goFn_of Try.func30 rfl (by kernel_rfl)) rfl rfl (by simp [renA, renL]) (by simp [shH, renB]) rfl ?_
  ((repeat' (first
    | (show SQ _ _ _ _ _ _ _ _; first | apply sq_nil | (apply q_move; exact rfl; exact rfl) | (apply q_assign; exact rfl; exact rfl) | (apply q_pick_f; exact rfl; exact rfl; exact rfl; exact (by first | assumption | exact rfl)) | (apply q_not; exact rfl; exact rfl) | (apply q_lend; exact rfl; exact rfl; exact (ty rfl); exact rfl) | (apply q_add; exact rfl; exact rfl; exact rfl) | (apply q_sub; exact rfl; exact rfl; exact rfl) | (apply q_eql; exact rfl; exact rfl; exact rfl) | (apply q_neq; exact rfl; exact rfl; exact rfl) | (apply q_build; exact rfl; exact (ty rfl); exact rfl; exact rfl; exact rfl) | (apply q_g; exact rfl; exact rfl; exact rfl; exact (by assumption)))
    | (show SQ _ _ _ _ _ _ _ _; (first | (apply q_ldap; exact rfl; exact rfl; exact (ty rfl); exact rfl; exact rfl; exact (by first | rfl | assumption | ((try simp only [Nat.zero_add]); refine List.getElem?_set_self ?_; (try simp only [List.length_set]); assumption)); exact rfl) | (apply q_box; exact rfl; exact rfl; exact rfl) | (apply q_alloc; exact rfl; exact (ty rfl); exact rfl; exact rfl) | (apply q_store; exact rfl; exact rfl; exact (ty rfl); exact rfl; exact (by first | rfl | assumption | ((try simp only [Nat.zero_add]); refine List.getElem?_set_self ?_; (try simp only [List.length_set]); assumption)); exact rfl; exact rfl; exact rfl) | (apply q_callU; exact rfl; exact rfl; exact rfl; exact FzL.of rfl; exact hV _) | (apply q_callU; exact rfl; exact rfl; exact rfl; exact FzL.of rfl; exact hB _) | (apply q_callU; exact rfl; exact rfl; exact rfl; exact FzL.of rfl; exact hI _) | (apply q_callU; exact rfl; exact rfl; exact rfl; exact FzL.of rfl; exact hW _)); (try simp only [put, rowsOf, plR, List.all_cons, selE, ovr, setH, del, cellsA, splice, isV, List.nil_append, List.cons_append, List.map_cons, List.map_nil, List.length_cons, List.length_nil, List.set_cons_zero, List.set_cons_succ, List.take_succ_cons, List.take_zero, List.take_nil, List.drop_succ_cons, List.drop_zero, List.drop_nil, List.append_nil, List.all_cons, List.all_nil, Bool.and_true, Bool.true_and, Bool.and_false, Bool.false_and, Nat.reduceAdd, Nat.zero_add, Nat.add_zero, Nat.reduceEqDiff, if_true, if_false, reduceIte]))
    | (show AW _ _ _ _ _ _ _ _; first | refine aw_region ?_ | (refine aw_seqk ?_; intro K hK) | refine aw_block ?_ | (apply aw_cond_f; exact rfl; exact rfl) | (apply aw_cond_f; exact rfl; exact (by assumption)) | refine aw_skip ?_)
    | refine thn_n ?_
    | (refine hK _ _ _ ?_; clear hK K)
    | refine inb_n ?_)); all_goals (repeat (clear hK K)))
  refine aw_nilB 1 0 5 2 1 rfl rfl rfl rfl rfl ?_
  refine aw_loop (ρ := sh1) (ι := Nat × Rs) (fun s => ([(49, .v (.int .i64 (s.1 : Int))), (48, .v (.int .i64 ((list.length + 1 : Nat) : Int))), (12, .ptr 0 0 0), (1, .dsl 1 (list.map inL))],
      [(0, ⟨92, 6, false, [[.dsl 1 (nbL ds), .dsl 1 (nbL ap), .dsl 1 (list.map inL), .dsl 1 (frz.map inL), .v (.int .i64 s.2.1), .sl 1 0 0]]⟩), (1, ⟨2, 1, true, s.2.2.map inL⟩)], 2))
    (fun s => s.1 ≤ list.length + 1 ∧ 0 ≤ s.2.1 ∧ s.2.1 ≤ 20000 ∧ topF ds ap list frz (list.length + 1 - s.1) s.1 s.2 = Q) (fun s => list.length + 1 - s.1) (0, (bu, [])) ⟨Nat.zero_le _, by dsimp only; omega, by dsimp only; omega, hQQ⟩ ⟨by (repeat (refine ⟨by first | exact lk_i rfl rfl | exact lk_i rfl (by (try dsimp only); first | rfl | omega | (rw [IntWalk.i64_in _ (by omega)]; first | rfl | omega | (push_cast; omega)) | (simp; done) | (simp; omega)) | exact lk_d rfl rfl | exact lk_r rfl rfl rfl, ?_⟩)); exact trivial, by (repeat (refine ⟨by first | exact ⟨rfl, rfl, rfl⟩, ?_⟩)); exact trivial, by rfl, by exact pin_0⟩ ?_
  rintro ⟨m, b2, bf⟩ ⟨hm, s0, s1, hg⟩
  dsimp only at hm s0 s1 hg
  by_cases c1 : m < list.length + 1
  · have d1 : decide ((m : Int) < ((list.length + 1 : Nat) : Int)) = true := by rw [decide_eq_true_eq]; omega
    have hw : IntKind.i64.wrap ((m : Int) + 1) = ((m + 1 : Nat) : Int) := by rw [IntWalk.i64_in _ (by omega)]; omega
    have hX := extend_rc ds ap list frz hP list.length (m : Int) (b2, bf) (Nat.le_refl _) (by omega) (by omega) s0 s1 (by omega) (fun e => by
      have := h; rw [hL] at e
      simp only [prB, domsB, Bool.and_eq_true, decide_eq_true_eq] at this; omega) (by rw [Nat.sub_self]; simp) 0 1 (by decide)
    have hk := repF_keep (ds := ds) (ap := ap) (list := list) (frz := frz) list.length (m : Int) (b2, bf) (Nat.le_refl _) s0 (by omega) (fun e => by
      have := h; rw [hL] at e
      simp only [prB, domsB, Bool.and_eq_true, decide_eq_true_eq] at this; omega)
    rw [Nat.sub_self] at hX hk
    unfold rsR at hX
    rw [show list.length + 1 - m = (list.length + 1 - (m + 1)) + 1 by omega, topF] at hg
    generalize repF ds ap list frz list.length (m : Int) (b2, bf) = q at *
    obtain ⟨qo, qb, qf⟩ := q
    have kb := hk.bud
    have kl := hk.lo
    have ko := hk.ok
    dsimp only at hX kb kl hg ko
    have hqm : (qf.map inL).length = qf.length := List.length_map _
    cases qo with
    | true =>
      rw [if_pos rfl] at hg hX
      obtain ⟨kn, kz⟩ := ko rfl
      have hCh := ChangesBetween_ro qf list kn (by omega)
      rw [kn] at hCh
      have hdt : ((qf.map inL).drop 0).take list.length = qf.map inL := by rw [List.drop_zero, List.take_of_length_le (by omega)]
      ((repeat' (first
    | (show SQ _ _ _ _ _ _ _ _; first | apply sq_nil | (apply q_move; exact rfl; exact rfl) | (apply q_assign; exact rfl; exact rfl) | (apply q_lss; exact rfl; exact rfl; exact rfl))
    | (show SQ _ _ _ _ _ _ _ _; (first | (apply q_callC; exact rfl; exact rfl; exact rfl; exact hX _; (focus ((repeat (first | exact trivial | refine ⟨by first | exact rfl | assumption, ?_⟩)); done)); skip)); (try simp only [put, rowsOf, plR, List.all_cons, selE, ovr, setH, del, cellsA, splice, isV, List.nil_append, List.cons_append, List.map_cons, List.map_nil, List.length_cons, List.length_nil, List.set_cons_zero, List.set_cons_succ, List.take_succ_cons, List.take_zero, List.take_nil, List.drop_succ_cons, List.drop_zero, List.drop_nil, List.append_nil, List.all_cons, List.all_nil, Bool.and_true, Bool.true_and, Bool.and_false, Bool.false_and, Nat.reduceAdd, Nat.zero_add, Nat.add_zero, Nat.reduceEqDiff, if_true, if_false, reduceIte]))
    | (show DE _ _ _ _ _ _ _ _ _ _ _ _; first | (apply e_move; exact rfl; exact rfl; exact rfl) | (apply e_assign; exact rfl; exact rfl; exact rfl) | (apply e_fieldAddr; exact rfl; exact rfl; exact (ty rfl); exact rfl; exact rfl; exact rfl; exact rfl; exact rfl) | (apply e_ld1p; exact rfl; exact rfl; exact (ty rfl); exact rfl; exact rfl; exact (by first | rfl | assumption | ((try simp only [Nat.zero_add]); refine List.getElem?_set_self ?_; (try simp only [List.length_set]); assumption)); exact rfl; exact rfl))
    | (show DE _ _ _ _ _ _ _ _ _ _ _ _; (first | (apply dr_nil; exact trivial) | (apply e_callU; exact rfl; exact rfl; exact rfl; rotate_left; exact hCh _; exact rfl; rotate_right; focus ((repeat' (first | exact FzL.nil | exact (by assumption : FzC _) _ | refine FzL.cons ?_ ?_ | exact Fz.of rfl | exact Fz.nil | exact Fz.emp | (apply Fz.fnC; assumption) | (apply Fz.sl2; exact rfl; exact (by first | omega | (simp; done) | (simp; omega)); first | exact rfl | exact dt_full (by first | omega | (simp; done) | (simp; omega)) | assumption) | apply Fz.agg | (apply Fz.ptrL; exact rfl; first | exact rfl | assumption) | apply Fz.fnL)); done))); (try simp only [put, rowsOf, plR, List.all_cons, selE, ovr, setH, del, cellsA, splice, isV, List.nil_append, List.cons_append, List.map_cons, List.map_nil, List.length_cons, List.length_nil, List.set_cons_zero, List.set_cons_succ, List.take_succ_cons, List.take_zero, List.take_nil, List.drop_succ_cons, List.drop_zero, List.drop_nil, List.append_nil, List.all_cons, List.all_nil, Bool.and_true, Bool.true_and, Bool.and_false, Bool.false_and, Nat.reduceAdd, Nat.zero_add, Nat.add_zero, Nat.reduceEqDiff, if_true, if_false, reduceIte]))
    | (show AW _ _ _ _ _ _ _ _; first | refine aw_region ?_ | (refine aw_seqk ?_; intro K hK) | refine aw_block ?_ | (apply aw_cond_t; exact rfl; exact rfl) | (apply aw_cond_t; exact rfl; exact (by assumption)) | refine aw_ret ?_ | refine aw_skip ?_ | refine aw_drawE (id := 15) [0, 1, 0, 4, 0, 28, 63, 127, 255] [0, 1, 0, 1, 0, 1, 0, 0, 0] mixed (by kernel_rfl) ?_)
    | refine thn_n ?_
    | (refine hK _ _ _ ?_; clear hK K)
    | refine thn_r ?_
    | refine inb_r ?_)); all_goals (repeat (clear hK K)))
      all_goals (subst hg; exact fin_r ⟨⟨_, mv 0 2, .r3 _ _ _ _ _ _ (.tmp _ _ rfl) (.tmp _ _ rfl) (.tmp _ _ rfl), rfl, ⟨⟨rfl, rfl, rfl⟩, trivial⟩, rfl⟩, rfl, rfl, rfl⟩)
    | false =>
      rw [if_neg (by simp)] at hg hX
      by_cases c4 : qb < 0
      · have d4 : decide (qb < 0) = true := by simpa using c4
        rw [if_pos c4] at hg
        ((repeat' (first
    | (show SQ _ _ _ _ _ _ _ _; first | apply sq_nil | (apply q_move; exact rfl; exact rfl) | (apply q_assign; exact rfl; exact rfl) | (apply q_fieldAddr; exact rfl; exact rfl; exact (ty rfl); exact rfl; exact rfl; exact rfl; exact rfl) | (apply q_lss; exact rfl; exact rfl; exact rfl) | (apply q_ld1p; exact rfl; exact rfl; exact (ty rfl); exact rfl; exact rfl; exact (by first | rfl | assumption | ((try simp only [Nat.zero_add]); refine List.getElem?_set_self ?_; (try simp only [List.length_set]); assumption)); exact rfl))
    | (show SQ _ _ _ _ _ _ _ _; (first | (apply q_callC; exact rfl; exact rfl; exact rfl; exact hX _; (focus ((repeat (first | exact trivial | refine ⟨by first | exact rfl | assumption, ?_⟩)); done)); skip)); (try simp only [put, rowsOf, plR, List.all_cons, selE, ovr, setH, del, cellsA, splice, isV, List.nil_append, List.cons_append, List.map_cons, List.map_nil, List.length_cons, List.length_nil, List.set_cons_zero, List.set_cons_succ, List.take_succ_cons, List.take_zero, List.take_nil, List.drop_succ_cons, List.drop_zero, List.drop_nil, List.append_nil, List.all_cons, List.all_nil, Bool.and_true, Bool.true_and, Bool.and_false, Bool.false_and, Nat.reduceAdd, Nat.zero_add, Nat.add_zero, Nat.reduceEqDiff, if_true, if_false, reduceIte]))
    | (show AW _ _ _ _ _ _ _ _; first | refine aw_region ?_ | (refine aw_seqk ?_; intro K hK) | refine aw_block ?_ | (apply aw_cond_f; exact rfl; exact rfl) | (apply aw_cond_t; exact rfl; exact (by assumption)) | refine aw_ret ?_ | refine aw_skip ?_)
    | refine thn_n ?_
    | (refine hK _ _ _ ?_; clear hK K)
    | refine thn_r ?_
    | refine inb_r ?_)); all_goals (repeat (clear hK K)))
        all_goals exact absurd (hg ▸ hv) (by simp)
      · have d4 : decide (qb < 0) = false := by simpa using c4
        rw [if_neg c4] at hg
        ((repeat' (first
    | (show SQ _ _ _ _ _ _ _ _; first | apply sq_nil | (apply q_move; exact rfl; exact rfl) | (apply q_assign; exact rfl; exact rfl) | (apply q_fieldAddr; exact rfl; exact rfl; exact (ty rfl); exact rfl; exact rfl; exact rfl; exact rfl) | (apply q_add; exact rfl; exact rfl; exact rfl) | (apply q_lss; exact rfl; exact rfl; exact rfl) | (apply q_ld1p; exact rfl; exact rfl; exact (ty rfl); exact rfl; exact rfl; exact (by first | rfl | assumption | ((try simp only [Nat.zero_add]); refine List.getElem?_set_self ?_; (try simp only [List.length_set]); assumption)); exact rfl))
    | (show SQ _ _ _ _ _ _ _ _; (first | (apply q_callC; exact rfl; exact rfl; exact rfl; exact hX _; (focus ((repeat (first | exact trivial | refine ⟨by first | exact rfl | assumption, ?_⟩)); done)); skip)); (try simp only [put, rowsOf, plR, List.all_cons, selE, ovr, setH, del, cellsA, splice, isV, List.nil_append, List.cons_append, List.map_cons, List.map_nil, List.length_cons, List.length_nil, List.set_cons_zero, List.set_cons_succ, List.take_succ_cons, List.take_zero, List.take_nil, List.drop_succ_cons, List.drop_zero, List.drop_nil, List.append_nil, List.all_cons, List.all_nil, Bool.and_true, Bool.true_and, Bool.and_false, Bool.false_and, Nat.reduceAdd, Nat.zero_add, Nat.add_zero, Nat.reduceEqDiff, if_true, if_false, reduceIte]))
    | (show AW _ _ _ _ _ _ _ _; first | refine aw_region ?_ | (refine aw_seqk ?_; intro K hK) | refine aw_block ?_ | (apply aw_cond_f; exact rfl; exact rfl) | (apply aw_cond_t; exact rfl; exact (by assumption)) | (apply aw_cond_f; exact rfl; exact (by assumption)) | refine aw_skip ?_)
    | refine thn_n ?_
    | (refine hK _ _ _ ?_; clear hK K)
    | refine inb_n ?_)); all_goals (repeat (clear hK K)))
        all_goals (refine ⟨(m + 1, (qb, qf)), mv 1 2, ⟨c1, by dsimp only; omega, by dsimp only; omega, hg⟩, by dsimp only; omega, ?_⟩; (try dsimp only); rw [← hw]; exact ⟨by (repeat (refine ⟨by first | exact lk_i rfl rfl | exact lk_d rfl rfl | exact lk_r rfl rfl rfl, ?_⟩)); exact trivial, by (repeat (refine ⟨by first | exact ⟨rfl, rfl, rfl⟩, ?_⟩)); exact trivial, by rfl, by exact pin_0⟩)
  · have d1 : decide ((m : Int) < ((list.length + 1 : Nat) : Int)) = false := by rw [decide_eq_false_iff_not]; omega
    rw [show list.length + 1 - m = 0 by omega, topF] at hg
    ((repeat' (first
    | (show SQ _ _ _ _ _ _ _ _; first | apply sq_nil | (apply q_assign; exact rfl; exact rfl) | (apply q_lss; exact rfl; exact rfl; exact rfl))
    | (show AW _ _ _ _ _ _ _ _; first | refine aw_region ?_ | (refine aw_seqk ?_; intro K hK) | (apply aw_cond_f; exact rfl; exact (by assumption)) | refine aw_ret ?_ | refine aw_exit ?_)
    | refine thn_n ?_
    | (refine hK _ _ _ ?_; clear hK K)
    | refine thn_e ?_
    | refine inb_same ?_
    | (clear hK K; refine hK _ _ _ ?_; clear hK K))); all_goals (repeat (clear hK K)))
    all_goals exact absurd (hg ▸ hv) (by simp)
theorem Rep_full (bu : Int) (h : prB ds ap = true) (h2 : inB bu 1 20000 = true) (h3 : stB ds list = true) (h4 : frB list frz = true) (hv : ((topF ds ap list frz (list.length + 1) 0 (bu, [])).1 = false ∧ (topF ds ap list frz (list.length + 1) 0 (bu, [])).2.1 < 0)) (k : Nat) : RO Try.prog 30 [.agg [.dsl 1 (nbL ds), .dsl 1 (nbL ap)], .dsl 1 (list.map inL), .dsl 1 (frz.map inL), .v (.int .i64 bu)] k (.tup [.v (.slice none 0 0), .v (.int .i64 0), .v (.int .i64 5)]) [] k := by
  have hml : (list.map inL).length = list.length := List.length_map _
  have hP := snd_of hS hA h h3 hf
  have hN := hP.n
  have hL := hP.l
  have hV := stateCode_ro ds ap list hS hA hn
  rw [if_neg (by rw [h]; simp), if_neg (by rw [h3]; simp)] at hV
  have hB := budgetValid_ro ds hS bu
  have hI := increasing_ro frz hf
  have hW := allWithin_ro frz (frz.map inL) 0 (IntKind.i64.wrap (((list.map inL).length : Int) - 1)) rfl hf
  have hw : IntKind.i64.wrap (((list.map inL).length : Int) - 1) = (list.length : Int) - 1 := by rw [hml, IntWalk.i64_in _ (by omega)]
  obtain ⟨h41, h42⟩ : incB frz = true ∧ (!frz.any fun x => !inB x 0 (IntKind.i64.wrap (((list.map inL).length : Int) - 1))) = true := by rw [hw]; simpa only [frB, Bool.and_eq_true] using h4
  rw [h41] at hI
  rw [h42] at hW
  have b2 : (!inB bu 1 20000) = false := by rw [h2]; rfl
  have b1 : ((0 : Int) == 1) = false := rfl
  have b3 : ((0 : Int) != 0) = false := rfl
  have hbu : 1 ≤ bu ∧ bu ≤ 20000 := by simpa [inB] using h2
  have hw1 : IntKind.i64.wrap (((list.map inL).length : Int) + 1) = ((list.length + 1 : Nat) : Int) := by rw [hml, IntWalk.i64_in _ (by omega)]; omega
  generalize hQQ : topF ds ap list frz (list.length + 1) 0 (bu, []) = Q at *
  refine RO.ofp Try.func30 Try.ntmps30 rfl (goFn_of Try.func30 rfl (by kernel_rfl)) rfl rfl rfl ?_
  ((repeat' (first
    | (show SQ _ _ _ _ _ _ _ _; first | apply sq_nil | (apply q_move; exact rfl; exact rfl) | (apply q_assign; exact rfl; exact rfl) | (apply q_pick_f; exact rfl; exact rfl; exact rfl; exact (by first | assumption | exact rfl)) | (apply q_not; exact rfl; exact rfl) | (apply q_lend; exact rfl; exact rfl; exact (ty rfl); exact rfl) | (apply q_add; exact rfl; exact rfl; exact rfl) | (apply q_sub; exact rfl; exact rfl; exact rfl) | (apply q_eql; exact rfl; exact rfl; exact rfl) | (apply q_neq; exact rfl; exact rfl; exact rfl) | (apply q_build; exact rfl; exact (ty rfl); exact rfl; exact rfl; exact rfl) | (apply q_g; exact rfl; exact rfl; exact rfl; exact (by assumption)))
    | (show SQ _ _ _ _ _ _ _ _; (first | (apply q_ldap; exact rfl; exact rfl; exact (ty rfl); exact rfl; exact rfl; exact (by first | rfl | assumption | ((try simp only [Nat.zero_add]); refine List.getElem?_set_self ?_; (try simp only [List.length_set]); assumption)); exact rfl) | (apply q_box; exact rfl; exact rfl; exact rfl) | (apply q_alloc; exact rfl; exact (ty rfl); exact rfl; exact rfl) | (apply q_store; exact rfl; exact rfl; exact (ty rfl); exact rfl; exact (by first | rfl | assumption | ((try simp only [Nat.zero_add]); refine List.getElem?_set_self ?_; (try simp only [List.length_set]); assumption)); exact rfl; exact rfl; exact rfl) | (apply q_callU; exact rfl; exact rfl; exact rfl; exact FzL.of rfl; exact hV _) | (apply q_callU; exact rfl; exact rfl; exact rfl; exact FzL.of rfl; exact hB _) | (apply q_callU; exact rfl; exact rfl; exact rfl; exact FzL.of rfl; exact hI _) | (apply q_callU; exact rfl; exact rfl; exact rfl; exact FzL.of rfl; exact hW _)); (try simp only [put, rowsOf, plR, List.all_cons, selE, ovr, setH, del, cellsA, splice, isV, List.nil_append, List.cons_append, List.map_cons, List.map_nil, List.length_cons, List.length_nil, List.set_cons_zero, List.set_cons_succ, List.take_succ_cons, List.take_zero, List.take_nil, List.drop_succ_cons, List.drop_zero, List.drop_nil, List.append_nil, List.all_cons, List.all_nil, Bool.and_true, Bool.true_and, Bool.and_false, Bool.false_and, Nat.reduceAdd, Nat.zero_add, Nat.add_zero, Nat.reduceEqDiff, if_true, if_false, reduceIte]))
    | (show AW _ _ _ _ _ _ _ _; first | refine aw_region ?_ | (refine aw_seqk ?_; intro K hK) | refine aw_block ?_ | (apply aw_cond_f; exact rfl; exact rfl) | (apply aw_cond_f; exact rfl; exact (by assumption)) | refine aw_skip ?_)
    | refine thn_n ?_
    | (refine hK _ _ _ ?_; clear hK K)
    | refine inb_n ?_)); all_goals (repeat (clear hK K)))
  refine aw_nilB 1 0 5 2 1 rfl rfl rfl rfl rfl ?_
  refine aw_loop (ρ := sh1) (ι := Nat × Rs) (fun s => ([(49, .v (.int .i64 (s.1 : Int))), (48, .v (.int .i64 ((list.length + 1 : Nat) : Int))), (12, .ptr 0 0 0), (1, .dsl 1 (list.map inL))],
      [(0, ⟨92, 6, false, [[.dsl 1 (nbL ds), .dsl 1 (nbL ap), .dsl 1 (list.map inL), .dsl 1 (frz.map inL), .v (.int .i64 s.2.1), .sl 1 0 0]]⟩), (1, ⟨2, 1, true, s.2.2.map inL⟩)], 2))
    (fun s => s.1 ≤ list.length + 1 ∧ 0 ≤ s.2.1 ∧ s.2.1 ≤ 20000 ∧ topF ds ap list frz (list.length + 1 - s.1) s.1 s.2 = Q) (fun s => list.length + 1 - s.1) (0, (bu, [])) ⟨Nat.zero_le _, by dsimp only; omega, by dsimp only; omega, hQQ⟩ ⟨by (repeat (refine ⟨by first | exact lk_i rfl rfl | exact lk_i rfl (by (try dsimp only); first | rfl | omega | (rw [IntWalk.i64_in _ (by omega)]; first | rfl | omega | (push_cast; omega)) | (simp; done) | (simp; omega)) | exact lk_d rfl rfl | exact lk_r rfl rfl rfl, ?_⟩)); exact trivial, by (repeat (refine ⟨by first | exact ⟨rfl, rfl, rfl⟩, ?_⟩)); exact trivial, by rfl, by exact pin_0⟩ ?_
  rintro ⟨m, b2, bf⟩ ⟨hm, s0, s1, hg⟩
  dsimp only at hm s0 s1 hg
  by_cases c1 : m < list.length + 1
  · have d1 : decide ((m : Int) < ((list.length + 1 : Nat) : Int)) = true := by rw [decide_eq_true_eq]; omega
    have hw : IntKind.i64.wrap ((m : Int) + 1) = ((m + 1 : Nat) : Int) := by rw [IntWalk.i64_in _ (by omega)]; omega
    have hX := extend_rc ds ap list frz hP list.length (m : Int) (b2, bf) (Nat.le_refl _) (by omega) (by omega) s0 s1 (by omega) (fun e => by
      have := h; rw [hL] at e
      simp only [prB, domsB, Bool.and_eq_true, decide_eq_true_eq] at this; omega) (by rw [Nat.sub_self]; simp) 0 1 (by decide)
    have hk := repF_keep (ds := ds) (ap := ap) (list := list) (frz := frz) list.length (m : Int) (b2, bf) (Nat.le_refl _) s0 (by omega) (fun e => by
      have := h; rw [hL] at e
      simp only [prB, domsB, Bool.and_eq_true, decide_eq_true_eq] at this; omega)
    rw [Nat.sub_self] at hX hk
    unfold rsR at hX
    rw [show list.length + 1 - m = (list.length + 1 - (m + 1)) + 1 by omega, topF] at hg
    generalize repF ds ap list frz list.length (m : Int) (b2, bf) = q at *
    obtain ⟨qo, qb, qf⟩ := q
    have kb := hk.bud
    have kl := hk.lo
    have ko := hk.ok
    dsimp only at hX kb kl hg ko
    have hqm : (qf.map inL).length = qf.length := List.length_map _
    cases qo with
    | true =>
      rw [if_pos rfl] at hg hX
      obtain ⟨kn, kz⟩ := ko rfl
      have hCh := ChangesBetween_ro qf list kn (by omega)
      rw [kn] at hCh
      have hdt : ((qf.map inL).drop 0).take list.length = qf.map inL := by rw [List.drop_zero, List.take_of_length_le (by omega)]
      ((repeat' (first
    | (show SQ _ _ _ _ _ _ _ _; first | apply sq_nil | (apply q_move; exact rfl; exact rfl) | (apply q_assign; exact rfl; exact rfl) | (apply q_lss; exact rfl; exact rfl; exact rfl))
    | (show SQ _ _ _ _ _ _ _ _; (first | (apply q_callC; exact rfl; exact rfl; exact rfl; exact hX _; (focus ((repeat (first | exact trivial | refine ⟨by first | exact rfl | assumption, ?_⟩)); done)); skip)); (try simp only [put, rowsOf, plR, List.all_cons, selE, ovr, setH, del, cellsA, splice, isV, List.nil_append, List.cons_append, List.map_cons, List.map_nil, List.length_cons, List.length_nil, List.set_cons_zero, List.set_cons_succ, List.take_succ_cons, List.take_zero, List.take_nil, List.drop_succ_cons, List.drop_zero, List.drop_nil, List.append_nil, List.all_cons, List.all_nil, Bool.and_true, Bool.true_and, Bool.and_false, Bool.false_and, Nat.reduceAdd, Nat.zero_add, Nat.add_zero, Nat.reduceEqDiff, if_true, if_false, reduceIte]))
    | (show DE _ _ _ _ _ _ _ _ _ _ _ _; first | (apply e_move; exact rfl; exact rfl; exact rfl) | (apply e_assign; exact rfl; exact rfl; exact rfl) | (apply e_fieldAddr; exact rfl; exact rfl; exact (ty rfl); exact rfl; exact rfl; exact rfl; exact rfl; exact rfl) | (apply e_ld1p; exact rfl; exact rfl; exact (ty rfl); exact rfl; exact rfl; exact (by first | rfl | assumption | ((try simp only [Nat.zero_add]); refine List.getElem?_set_self ?_; (try simp only [List.length_set]); assumption)); exact rfl; exact rfl))
    | (show DE _ _ _ _ _ _ _ _ _ _ _ _; (first | (apply dr_nil; exact trivial) | (apply e_callU; exact rfl; exact rfl; exact rfl; rotate_left; exact hCh _; exact rfl; rotate_right; focus ((repeat' (first | exact FzL.nil | exact (by assumption : FzC _) _ | refine FzL.cons ?_ ?_ | exact Fz.of rfl | exact Fz.nil | exact Fz.emp | (apply Fz.fnC; assumption) | (apply Fz.sl2; exact rfl; exact (by first | omega | (simp; done) | (simp; omega)); first | exact rfl | exact dt_full (by first | omega | (simp; done) | (simp; omega)) | assumption) | apply Fz.agg | (apply Fz.ptrL; exact rfl; first | exact rfl | assumption) | apply Fz.fnL)); done))); (try simp only [put, rowsOf, plR, List.all_cons, selE, ovr, setH, del, cellsA, splice, isV, List.nil_append, List.cons_append, List.map_cons, List.map_nil, List.length_cons, List.length_nil, List.set_cons_zero, List.set_cons_succ, List.take_succ_cons, List.take_zero, List.take_nil, List.drop_succ_cons, List.drop_zero, List.drop_nil, List.append_nil, List.all_cons, List.all_nil, Bool.and_true, Bool.true_and, Bool.and_false, Bool.false_and, Nat.reduceAdd, Nat.zero_add, Nat.add_zero, Nat.reduceEqDiff, if_true, if_false, reduceIte]))
    | (show AW _ _ _ _ _ _ _ _; first | refine aw_region ?_ | (refine aw_seqk ?_; intro K hK) | refine aw_block ?_ | (apply aw_cond_t; exact rfl; exact rfl) | (apply aw_cond_t; exact rfl; exact (by assumption)) | refine aw_ret ?_ | refine aw_skip ?_ | refine aw_drawE (id := 15) [0, 1, 0, 4, 0, 28, 63, 127, 255] [0, 1, 0, 1, 0, 1, 0, 0, 0] mixed (by kernel_rfl) ?_)
    | refine thn_n ?_
    | (refine hK _ _ _ ?_; clear hK K)
    | refine thn_r ?_
    | refine inb_r ?_)); all_goals (repeat (clear hK K)))
      all_goals exact absurd (hg ▸ hv.1) (by simp)
    | false =>
      rw [if_neg (by simp)] at hg hX
      by_cases c4 : qb < 0
      · have d4 : decide (qb < 0) = true := by simpa using c4
        rw [if_pos c4] at hg
        ((repeat' (first
    | (show SQ _ _ _ _ _ _ _ _; first | apply sq_nil | (apply q_move; exact rfl; exact rfl) | (apply q_assign; exact rfl; exact rfl) | (apply q_fieldAddr; exact rfl; exact rfl; exact (ty rfl); exact rfl; exact rfl; exact rfl; exact rfl) | (apply q_lss; exact rfl; exact rfl; exact rfl) | (apply q_ld1p; exact rfl; exact rfl; exact (ty rfl); exact rfl; exact rfl; exact (by first | rfl | assumption | ((try simp only [Nat.zero_add]); refine List.getElem?_set_self ?_; (try simp only [List.length_set]); assumption)); exact rfl))
    | (show SQ _ _ _ _ _ _ _ _; (first | (apply q_callC; exact rfl; exact rfl; exact rfl; exact hX _; (focus ((repeat (first | exact trivial | refine ⟨by first | exact rfl | assumption, ?_⟩)); done)); skip)); (try simp only [put, rowsOf, plR, List.all_cons, selE, ovr, setH, del, cellsA, splice, isV, List.nil_append, List.cons_append, List.map_cons, List.map_nil, List.length_cons, List.length_nil, List.set_cons_zero, List.set_cons_succ, List.take_succ_cons, List.take_zero, List.take_nil, List.drop_succ_cons, List.drop_zero, List.drop_nil, List.append_nil, List.all_cons, List.all_nil, Bool.and_true, Bool.true_and, Bool.and_false, Bool.false_and, Nat.reduceAdd, Nat.zero_add, Nat.add_zero, Nat.reduceEqDiff, if_true, if_false, reduceIte]))
    | (show AW _ _ _ _ _ _ _ _; first | refine aw_region ?_ | (refine aw_seqk ?_; intro K hK) | refine aw_block ?_ | (apply aw_cond_f; exact rfl; exact rfl) | (apply aw_cond_t; exact rfl; exact (by assumption)) | refine aw_ret ?_ | refine aw_skip ?_)
    | refine thn_n ?_
    | (refine hK _ _ _ ?_; clear hK K)
    | refine thn_r ?_
    | refine inb_r ?_)); all_goals (repeat (clear hK K)))
        all_goals (refine fin_r (fin_p (.r3 _ _ _ _ _ _ (.tmp _ _ rfl) (.tmp _ _ rfl) (.tmp _ _ rfl)) ?_ rfl rfl rfl); rfl)
      · have d4 : decide (qb < 0) = false := by simpa using c4
        rw [if_neg c4] at hg
        ((repeat' (first
    | (show SQ _ _ _ _ _ _ _ _; first | apply sq_nil | (apply q_move; exact rfl; exact rfl) | (apply q_assign; exact rfl; exact rfl) | (apply q_fieldAddr; exact rfl; exact rfl; exact (ty rfl); exact rfl; exact rfl; exact rfl; exact rfl) | (apply q_add; exact rfl; exact rfl; exact rfl) | (apply q_lss; exact rfl; exact rfl; exact rfl) | (apply q_ld1p; exact rfl; exact rfl; exact (ty rfl); exact rfl; exact rfl; exact (by first | rfl | assumption | ((try simp only [Nat.zero_add]); refine List.getElem?_set_self ?_; (try simp only [List.length_set]); assumption)); exact rfl))
    | (show SQ _ _ _ _ _ _ _ _; (first | (apply q_callC; exact rfl; exact rfl; exact rfl; exact hX _; (focus ((repeat (first | exact trivial | refine ⟨by first | exact rfl | assumption, ?_⟩)); done)); skip)); (try simp only [put, rowsOf, plR, List.all_cons, selE, ovr, setH, del, cellsA, splice, isV, List.nil_append, List.cons_append, List.map_cons, List.map_nil, List.length_cons, List.length_nil, List.set_cons_zero, List.set_cons_succ, List.take_succ_cons, List.take_zero, List.take_nil, List.drop_succ_cons, List.drop_zero, List.drop_nil, List.append_nil, List.all_cons, List.all_nil, Bool.and_true, Bool.true_and, Bool.and_false, Bool.false_and, Nat.reduceAdd, Nat.zero_add, Nat.add_zero, Nat.reduceEqDiff, if_true, if_false, reduceIte]))
    | (show AW _ _ _ _ _ _ _ _; first | refine aw_region ?_ | (refine aw_seqk ?_; intro K hK) | refine aw_block ?_ | (apply aw_cond_f; exact rfl; exact rfl) | (apply aw_cond_t; exact rfl; exact (by assumption)) | (apply aw_cond_f; exact rfl; exact (by assumption)) | refine aw_skip ?_)
    | refine thn_n ?_
    | (refine hK _ _ _ ?_; clear hK K)
    | refine inb_n ?_)); all_goals (repeat (clear hK K)))
        all_goals (refine ⟨(m + 1, (qb, qf)), mv 1 2, ⟨c1, by dsimp only; omega, by dsimp only; omega, hg⟩, by dsimp only; omega, ?_⟩; (try dsimp only); rw [← hw]; exact ⟨by (repeat (refine ⟨by first | exact lk_i rfl rfl | exact lk_d rfl rfl | exact lk_r rfl rfl rfl, ?_⟩)); exact trivial, by (repeat (refine ⟨by first | exact ⟨rfl, rfl, rfl⟩, ?_⟩)); exact trivial, by rfl, by exact pin_0⟩)
  · have d1 : decide ((m : Int) < ((list.length + 1 : Nat) : Int)) = false := by rw [decide_eq_false_iff_not]; omega
    rw [show list.length + 1 - m = 0 by omega, topF] at hg
    ((repeat' (first
    | (show SQ _ _ _ _ _ _ _ _; first | apply sq_nil | (apply q_assign; exact rfl; exact rfl) | (apply q_lss; exact rfl; exact rfl; exact rfl))
    | (show AW _ _ _ _ _ _ _ _; first | refine aw_region ?_ | (refine aw_seqk ?_; intro K hK) | (apply aw_cond_f; exact rfl; exact (by assumption)) | refine aw_ret ?_ | refine aw_exit ?_)
    | refine thn_n ?_
    | (refine hK _ _ _ ?_; clear hK K)
    | refine thn_e ?_
    | refine inb_same ?_
    | (clear hK K; refine hK _ _ _ ?_; clear hK K))); all_goals (repeat (clear hK K)))
    all_goals (subst hg; exact absurd hv.2 (by dsimp only; omega))
theorem Rep_none (bu : Int) (h : prB ds ap = true) (h2 : inB bu 1 20000 = true) (h3 : stB ds list = true) (h4 : frB list frz = true) (hv : ((topF ds ap list frz (list.length + 1) 0 (bu, [])).1 = false ∧ ¬ (topF ds ap list frz (list.length + 1) 0 (bu, [])).2.1 < 0)) (k : Nat) : RO Try.prog 30 [.agg [.dsl 1 (nbL ds), .dsl 1 (nbL ap)], .dsl 1 (list.map inL), .dsl 1 (frz.map inL), .v (.int .i64 bu)] k (.tup [.v (.slice none 0 0), .v (.int .i64 0), .v (.int .i64 3)]) [] k := by
  have hml : (list.map inL).length = list.length := List.length_map _
  have hP := snd_of hS hA h h3 hf
  have hN := hP.n
  have hL := hP.l
  have hV := stateCode_ro ds ap list hS hA hn
  rw [if_neg (by rw [h]; simp), if_neg (by rw [h3]; simp)] at hV
  have hB := budgetValid_ro ds hS bu
  have hI := increasing_ro frz hf
  have hW := allWithin_ro frz (frz.map inL) 0 (IntKind.i64.wrap (((list.map inL).length : Int) - 1)) rfl hf
  have hw : IntKind.i64.wrap (((list.map inL).length : Int) - 1) = (list.length : Int) - 1 := by rw [hml, IntWalk.i64_in _ (by omega)]
  obtain ⟨h41, h42⟩ : incB frz = true ∧ (!frz.any fun x => !inB x 0 (IntKind.i64.wrap (((list.map inL).length : Int) - 1))) = true := by rw [hw]; simpa only [frB, Bool.and_eq_true] using h4
  rw [h41] at hI
  rw [h42] at hW
  have b2 : (!inB bu 1 20000) = false := by rw [h2]; rfl
  have b1 : ((0 : Int) == 1) = false := rfl
  have b3 : ((0 : Int) != 0) = false := rfl
  have hbu : 1 ≤ bu ∧ bu ≤ 20000 := by simpa [inB] using h2
  have hw1 : IntKind.i64.wrap (((list.map inL).length : Int) + 1) = ((list.length + 1 : Nat) : Int) := by rw [hml, IntWalk.i64_in _ (by omega)]; omega
  generalize hQQ : topF ds ap list frz (list.length + 1) 0 (bu, []) = Q at *
  refine RO.ofp Try.func30 Try.ntmps30 rfl (goFn_of Try.func30 rfl (by kernel_rfl)) rfl rfl rfl ?_
  ((repeat' (first
    | (show SQ _ _ _ _ _ _ _ _; first | apply sq_nil | (apply q_move; exact rfl; exact rfl) | (apply q_assign; exact rfl; exact rfl) | (apply q_pick_f; exact rfl; exact rfl; exact rfl; exact (by first | assumption | exact rfl)) | (apply q_not; exact rfl; exact rfl) | (apply q_lend; exact rfl; exact rfl; exact (ty rfl); exact rfl) | (apply q_add; exact rfl; exact rfl; exact rfl) | (apply q_sub; exact rfl; exact rfl; exact rfl) | (apply q_eql; exact rfl; exact rfl; exact rfl) | (apply q_neq; exact rfl; exact rfl; exact rfl) | (apply q_build; exact rfl; exact (ty rfl); exact rfl; exact rfl; exact rfl) | (apply q_g; exact rfl; exact rfl; exact rfl; exact (by assumption)))
    | (show SQ _ _ _ _ _ _ _ _; (first | (apply q_ldap; exact rfl; exact rfl; exact (ty rfl); exact rfl; exact rfl; exact (by first | rfl | assumption | ((try simp only [Nat.zero_add]); refine List.getElem?_set_self ?_; (try simp only [List.length_set]); assumption)); exact rfl) | (apply q_box; exact rfl; exact rfl; exact rfl) | (apply q_alloc; exact rfl; exact (ty rfl); exact rfl; exact rfl) | (apply q_store; exact rfl; exact rfl; exact (ty rfl); exact rfl; exact (by first | rfl | assumption | ((try simp only [Nat.zero_add]); refine List.getElem?_set_self ?_; (try simp only [List.length_set]); assumption)); exact rfl; exact rfl; exact rfl) | (apply q_callU; exact rfl; exact rfl; exact rfl; exact FzL.of rfl; exact hV _) | (apply q_callU; exact rfl; exact rfl; exact rfl; exact FzL.of rfl; exact hB _) | (apply q_callU; exact rfl; exact rfl; exact rfl; exact FzL.of rfl; exact hI _) | (apply q_callU; exact rfl; exact rfl; exact rfl; exact FzL.of rfl; exact hW _)); (try simp only [put, rowsOf, plR, List.all_cons, selE, ovr, setH, del, cellsA, splice, isV, List.nil_append, List.cons_append, List.map_cons, List.map_nil, List.length_cons, List.length_nil, List.set_cons_zero, List.set_cons_succ, List.take_succ_cons, List.take_zero, List.take_nil, List.drop_succ_cons, List.drop_zero, List.drop_nil, List.append_nil, List.all_cons, List.all_nil, Bool.and_true, Bool.true_and, Bool.and_false, Bool.false_and, Nat.reduceAdd, Nat.zero_add, Nat.add_zero, Nat.reduceEqDiff, if_true, if_false, reduceIte]))
    | (show AW _ _ _ _ _ _ _ _; first | refine aw_region ?_ | (refine aw_seqk ?_; intro K hK) | refine aw_block ?_ | (apply aw_cond_f; exact rfl; exact rfl) | (apply aw_cond_f; exact rfl; exact (by assumption)) | refine aw_skip ?_)
    | refine thn_n ?_
    | (refine hK _ _ _ ?_; clear hK K)
    | refine inb_n ?_)); all_goals (repeat (clear hK K)))
  refine aw_nilB 1 0 5 2 1 rfl rfl rfl rfl rfl ?_
  refine aw_loop (ρ := sh1) (ι := Nat × Rs) (fun s => ([(49, .v (.int .i64 (s.1 : Int))), (48, .v (.int .i64 ((list.length + 1 : Nat) : Int))), (12, .ptr 0 0 0), (1, .dsl 1 (list.map inL))],
      [(0, ⟨92, 6, false, [[.dsl 1 (nbL ds), .dsl 1 (nbL ap), .dsl 1 (list.map inL), .dsl 1 (frz.map inL), .v (.int .i64 s.2.1), .sl 1 0 0]]⟩), (1, ⟨2, 1, true, s.2.2.map inL⟩)], 2))
    (fun s => s.1 ≤ list.length + 1 ∧ 0 ≤ s.2.1 ∧ s.2.1 ≤ 20000 ∧ topF ds ap list frz (list.length + 1 - s.1) s.1 s.2 = Q) (fun s => list.length + 1 - s.1) (0, (bu, [])) ⟨Nat.zero_le _, by dsimp only; omega, by dsimp only; omega, hQQ⟩ ⟨by (repeat (refine ⟨by first | exact lk_i rfl rfl | exact lk_i rfl (by (try dsimp only); first | rfl | omega | (rw [IntWalk.i64_in _ (by omega)]; first | rfl | omega | (push_cast; omega)) | (simp; done) | (simp; omega)) | exact lk_d rfl rfl | exact lk_r rfl rfl rfl, ?_⟩)); exact trivial, by (repeat (refine ⟨by first | exact ⟨rfl, rfl, rfl⟩, ?_⟩)); exact trivial, by rfl, by exact pin_0⟩ ?_
  rintro ⟨m, b2, bf⟩ ⟨hm, s0, s1, hg⟩
  dsimp only at hm s0 s1 hg
  by_cases c1 : m < list.length + 1
  · have d1 : decide ((m : Int) < ((list.length + 1 : Nat) : Int)) = true := by rw [decide_eq_true_eq]; omega
    have hw : IntKind.i64.wrap ((m : Int) + 1) = ((m + 1 : Nat) : Int) := by rw [IntWalk.i64_in _ (by omega)]; omega
    have hX := extend_rc ds ap list frz hP list.length (m : Int) (b2, bf) (Nat.le_refl _) (by omega) (by omega) s0 s1 (by omega) (fun e => by
      have := h; rw [hL] at e
      simp only [prB, domsB, Bool.and_eq_true, decide_eq_true_eq] at this; omega) (by rw [Nat.sub_self]; simp) 0 1 (by decide)
    have hk := repF_keep (ds := ds) (ap := ap) (list := list) (frz := frz) list.length (m : Int) (b2, bf) (Nat.le_refl _) s0 (by omega) (fun e => by
      have := h; rw [hL] at e
      simp only [prB, domsB, Bool.and_eq_true, decide_eq_true_eq] at this; omega)
    rw [Nat.sub_self] at hX hk
    unfold rsR at hX
    rw [show list.length + 1 - m = (list.length + 1 - (m + 1)) + 1 by omega, topF] at hg
    generalize repF ds ap list frz list.length (m : Int) (b2, bf) = q at *
    obtain ⟨qo, qb, qf⟩ := q
    have kb := hk.bud
    have kl := hk.lo
    have ko := hk.ok
    dsimp only at hX kb kl hg ko
    have hqm : (qf.map inL).length = qf.length := List.length_map _
    cases qo with
    | true =>
      rw [if_pos rfl] at hg hX
      obtain ⟨kn, kz⟩ := ko rfl
      have hCh := ChangesBetween_ro qf list kn (by omega)
      rw [kn] at hCh
      have hdt : ((qf.map inL).drop 0).take list.length = qf.map inL := by rw [List.drop_zero, List.take_of_length_le (by omega)]
      ((repeat' (first
    | (show SQ _ _ _ _ _ _ _ _; first | apply sq_nil | (apply q_move; exact rfl; exact rfl) | (apply q_assign; exact rfl; exact rfl) | (apply q_lss; exact rfl; exact rfl; exact rfl))
    | (show SQ _ _ _ _ _ _ _ _; (first | (apply q_callC; exact rfl; exact rfl; exact rfl; exact hX _; (focus ((repeat (first | exact trivial | refine ⟨by first | exact rfl | assumption, ?_⟩)); done)); skip)); (try simp only [put, rowsOf, plR, List.all_cons, selE, ovr, setH, del, cellsA, splice, isV, List.nil_append, List.cons_append, List.map_cons, List.map_nil, List.length_cons, List.length_nil, List.set_cons_zero, List.set_cons_succ, List.take_succ_cons, List.take_zero, List.take_nil, List.drop_succ_cons, List.drop_zero, List.drop_nil, List.append_nil, List.all_cons, List.all_nil, Bool.and_true, Bool.true_and, Bool.and_false, Bool.false_and, Nat.reduceAdd, Nat.zero_add, Nat.add_zero, Nat.reduceEqDiff, if_true, if_false, reduceIte]))
    | (show DE _ _ _ _ _ _ _ _ _ _ _ _; first | (apply e_move; exact rfl; exact rfl; exact rfl) | (apply e_assign; exact rfl; exact rfl; exact rfl) | (apply e_fieldAddr; exact rfl; exact rfl; exact (ty rfl); exact rfl; exact rfl; exact rfl; exact rfl; exact rfl) | (apply e_ld1p; exact rfl; exact rfl; exact (ty rfl); exact rfl; exact rfl; exact (by first | rfl | assumption | ((try simp only [Nat.zero_add]); refine List.getElem?_set_self ?_; (try simp only [List.length_set]); assumption)); exact rfl; exact rfl))
    | (show DE _ _ _ _ _ _ _ _ _ _ _ _; (first | (apply dr_nil; exact trivial) | (apply e_callU; exact rfl; exact rfl; exact rfl; rotate_left; exact hCh _; exact rfl; rotate_right; focus ((repeat' (first | exact FzL.nil | exact (by assumption : FzC _) _ | refine FzL.cons ?_ ?_ | exact Fz.of rfl | exact Fz.nil | exact Fz.emp | (apply Fz.fnC; assumption) | (apply Fz.sl2; exact rfl; exact (by first | omega | (simp; done) | (simp; omega)); first | exact rfl | exact dt_full (by first | omega | (simp; done) | (simp; omega)) | assumption) | apply Fz.agg | (apply Fz.ptrL; exact rfl; first | exact rfl | assumption) | apply Fz.fnL)); done))); (try simp only [put, rowsOf, plR, List.all_cons, selE, ovr, setH, del, cellsA, splice, isV, List.nil_append, List.cons_append, List.map_cons, List.map_nil, List.length_cons, List.length_nil, List.set_cons_zero, List.set_cons_succ, List.take_succ_cons, List.take_zero, List.take_nil, List.drop_succ_cons, List.drop_zero, List.drop_nil, List.append_nil, List.all_cons, List.all_nil, Bool.and_true, Bool.true_and, Bool.and_false, Bool.false_and, Nat.reduceAdd, Nat.zero_add, Nat.add_zero, Nat.reduceEqDiff, if_true, if_false, reduceIte]))
    | (show AW _ _ _ _ _ _ _ _; first | refine aw_region ?_ | (refine aw_seqk ?_; intro K hK) | refine aw_block ?_ | (apply aw_cond_t; exact rfl; exact rfl) | (apply aw_cond_t; exact rfl; exact (by assumption)) | refine aw_ret ?_ | refine aw_skip ?_ | refine aw_drawE (id := 15) [0, 1, 0, 4, 0, 28, 63, 127, 255] [0, 1, 0, 1, 0, 1, 0, 0, 0] mixed (by kernel_rfl) ?_)
    | refine thn_n ?_
    | (refine hK _ _ _ ?_; clear hK K)
    | refine thn_r ?_
    | refine inb_r ?_)); all_goals (repeat (clear hK K)))
      all_goals exact absurd (hg ▸ hv.1) (by simp)
    | false =>
      rw [if_neg (by simp)] at hg hX
      by_cases c4 : qb < 0
      · have d4 : decide (qb < 0) = true := by simpa using c4
        rw [if_pos c4] at hg
        ((repeat' (first
    | (show SQ _ _ _ _ _ _ _ _; first | apply sq_nil | (apply q_move; exact rfl; exact rfl) | (apply q_assign; exact rfl; exact rfl) | (apply q_fieldAddr; exact rfl; exact rfl; exact (ty rfl); exact rfl; exact rfl; exact rfl; exact rfl) | (apply q_lss; exact rfl; exact rfl; exact rfl) | (apply q_ld1p; exact rfl; exact rfl; exact (ty rfl); exact rfl; exact rfl; exact (by first | rfl | assumption | ((try simp only [Nat.zero_add]); refine List.getElem?_set_self ?_; (try simp only [List.length_set]); assumption)); exact rfl))
    | (show SQ _ _ _ _ _ _ _ _; (first | (apply q_callC; exact rfl; exact rfl; exact rfl; exact hX _; (focus ((repeat (first | exact trivial | refine ⟨by first | exact rfl | assumption, ?_⟩)); done)); skip)); (try simp only [put, rowsOf, plR, List.all_cons, selE, ovr, setH, del, cellsA, splice, isV, List.nil_append, List.cons_append, List.map_cons, List.map_nil, List.length_cons, List.length_nil, List.set_cons_zero, List.set_cons_succ, List.take_succ_cons, List.take_zero, List.take_nil, List.drop_succ_cons, List.drop_zero, List.drop_nil, List.append_nil, List.all_cons, List.all_nil, Bool.and_true, Bool.true_and, Bool.and_false, Bool.false_and, Nat.reduceAdd, Nat.zero_add, Nat.add_zero, Nat.reduceEqDiff, if_true, if_false, reduceIte]))
    | (show AW _ _ _ _ _ _ _ _; first | refine aw_region ?_ | (refine aw_seqk ?_; intro K hK) | refine aw_block ?_ | (apply aw_cond_f; exact rfl; exact rfl) | (apply aw_cond_t; exact rfl; exact (by assumption)) | refine aw_ret ?_ | refine aw_skip ?_)
    | refine thn_n ?_
    | (refine hK _ _ _ ?_; clear hK K)
    | refine thn_r ?_
    | refine inb_r ?_)); all_goals (repeat (clear hK K)))
        all_goals (subst hg; exact absurd c4 hv.2)
      · have d4 : decide (qb < 0) = false := by simpa using c4
        rw [if_neg c4] at hg
        ((repeat' (first
    | (show SQ _ _ _ _ _ _ _ _; first | apply sq_nil | (apply q_move; exact rfl; exact rfl) | (apply q_assign; exact rfl; exact rfl) | (apply q_fieldAddr; exact rfl; exact rfl; exact (ty rfl); exact rfl; exact rfl; exact rfl; exact rfl) | (apply q_add; exact rfl; exact rfl; exact rfl) | (apply q_lss; exact rfl; exact rfl; exact rfl) | (apply q_ld1p; exact rfl; exact rfl; exact (ty rfl); exact rfl; exact rfl; exact (by first | rfl | assumption | ((try simp only [Nat.zero_add]); refine List.getElem?_set_self ?_; (try simp only [List.length_set]); assumption)); exact rfl))
    | (show SQ _ _ _ _ _ _ _ _; (first | (apply q_callC; exact rfl; exact rfl; exact rfl; exact hX _; (focus ((repeat (first | exact trivial | refine ⟨by first | exact rfl | assumption, ?_⟩)); done)); skip)); (try simp only [put, rowsOf, plR, List.all_cons, selE, ovr, setH, del, cellsA, splice, isV, List.nil_append, List.cons_append, List.map_cons, List.map_nil, List.length_cons, List.length_nil, List.set_cons_zero, List.set_cons_succ, List.take_succ_cons, List.take_zero, List.take_nil, List.drop_succ_cons, List.drop_zero, List.drop_nil, List.append_nil, List.all_cons, List.all_nil, Bool.and_true, Bool.true_and, Bool.and_false, Bool.false_and, Nat.reduceAdd, Nat.zero_add, Nat.add_zero, Nat.reduceEqDiff, if_true, if_false, reduceIte]))
    | (show AW _ _ _ _ _ _ _ _; first | refine aw_region ?_ | (refine aw_seqk ?_; intro K hK) | refine aw_block ?_ | (apply aw_cond_f; exact rfl; exact rfl) | (apply aw_cond_t; exact rfl; exact (by assumption)) | (apply aw_cond_f; exact rfl; exact (by assumption)) | refine aw_skip ?_)
    | refine thn_n ?_
    | (refine hK _ _ _ ?_; clear hK K)
    | refine inb_n ?_)); all_goals (repeat (clear hK K)))
        all_goals (refine ⟨(m + 1, (qb, qf)), mv 1 2, ⟨c1, by dsimp only; omega, by dsimp only; omega, hg⟩, by dsimp only; omega, ?_⟩; (try dsimp only); rw [← hw]; exact ⟨by (repeat (refine ⟨by first | exact lk_i rfl rfl | exact lk_d rfl rfl | exact lk_r rfl rfl rfl, ?_⟩)); exact trivial, by (repeat (refine ⟨by first | exact ⟨rfl, rfl, rfl⟩, ?_⟩)); exact trivial, by rfl, by exact pin_0⟩)
  · have d1 : decide ((m : Int) < ((list.length + 1 : Nat) : Int)) = false := by rw [decide_eq_false_iff_not]; omega
    rw [show list.length + 1 - m = 0 by omega, topF] at hg
    ((repeat' (first
    | (show SQ _ _ _ _ _ _ _ _; first | apply sq_nil | (apply q_assign; exact rfl; exact rfl) | (apply q_lss; exact rfl; exact rfl; exact rfl))
    | (show AW _ _ _ _ _ _ _ _; first | refine aw_region ?_ | (refine aw_seqk ?_; intro K hK) | (apply aw_cond_f; exact rfl; exact (by assumption)) | refine aw_ret ?_ | refine aw_exit ?_)
    | refine thn_n ?_
    | (refine hK _ _ _ ?_; clear hK K)
    | refine thn_e ?_
    | refine inb_same ?_
    | (clear hK K; refine hK _ _ _ ?_; clear hK K))); all_goals (repeat (clear hK K)))
    all_goals (refine fin_r (fin_p (.r3 _ _ _ _ _ _ (.tmp _ _ rfl) (.tmp _ _ rfl) (.tmp _ _ rfl)) ?_ rfl rfl rfl); rfl)
end
end Go.Proofs.Yteknfaldpajlpaa.Nb

namespace Go.Proofs.Yteknfaldpajlpaa.Nb
open Go Go.RowKit Go.Proofs.Yteknfaldpajlpaa.Aw Go.Proofs.Yteknfaldpajlpaa.In Go.Proofs.Yteknfaldpajlpaa.Il
set_option linter.unusedSimpArgs false
set_option linter.unusedVariables false
set_option linter.unusedSectionVars false
def Asg (ds ap : List (List Int)) (m : List Int) : Prop := ∀ i, i < m.length → ((ds.getD i []).any fun y => y == m.getD i 0) = true ∧ fitB ap (m.take i) (m.getD i 0) = true
structure Gd (ds ap : List (List Int)) (list frz : List Int) (i : Nat) (left : Int) (p m : List Int) : Prop where
  len : m.length = list.length
  pre : m.take i = p.take i
  asg : Asg ds ap m
  few : (chgN m list list.length : Int) - chgN m list i ≤ left
  frz : ∀ j, i ≤ j → j < list.length → (frz.any fun y => y == ((j : Nat) : Int)) = true → m.getD j 0 = list.getD j 0
theorem chgN_mono (a b : List Int) {i j : Nat} (h : i ≤ j) : chgN a b i ≤ chgN a b j := by
  induction j with
  | zero => have : i = 0 := by omega
            subst this; exact Nat.le_refl _
  | succ j ih =>
    by_cases e : i = j + 1
    · subst e; exact Nat.le_refl _
    · rw [chgN_succ]; have := ih (by omega); omega
theorem take_at {m p : List Int} {i : Nat} (h : m.take (i + 1) = p.take (i + 1)) : m.take i = p.take i := by
  have := congrArg (List.take i) h
  rwa [List.take_take, List.take_take, Nat.min_eq_left (by omega)] at this
theorem take_snoc {m p : List Int} {i : Nat} {c : Int} (hi : i < m.length) (hp : m.take i = p.take i) (hc : m.getD i 0 = c) (hl : i ≤ p.length) : m.take (i + 1) = (p.take i ++ [c]).take (i + 1) := by
  have e : (p.take i ++ [c]).take (i + 1) = p.take i ++ [c] := List.take_of_length_le (by rw [List.length_append, List.length_take]; simp; omega)
  rw [e, List.take_succ_eq_append_getElem hi, hp]
  congr 2
  rw [← hc]; simp [List.getD, hi]
theorem Asg.snoc {ds ap : List (List Int)} {p : List Int} {c : Int} (h : Asg ds ap p) (hd : ((ds.getD p.length []).any fun y => y == c) = true) (hf : fitB ap p c = true) : Asg ds ap (p ++ [c]) := fun i hi => by
  rw [List.length_append, List.length_singleton] at hi
  by_cases e : i = p.length
  · subst e
    have : (p ++ [c]).getD p.length 0 = c := by simp [List.getD]
    rw [this, List.take_left']
    · exact ⟨hd, hf⟩
    · rfl
  · have h1 : i < p.length := by omega
    have : (p ++ [c]).getD i 0 = p.getD i 0 := by simp [List.getD, h1, List.getElem?_append_left h1]
    rw [this, List.take_append_of_le_length (by omega)]
    exact h i h1
theorem Asg.take {ds ap : List (List Int)} {m : List Int} (h : Asg ds ap m) (n : Nat) : Asg ds ap (m.take n) := fun i hi => by
  rw [List.length_take] at hi
  have e : (m.take n).getD i 0 = m.getD i 0 := by simp only [List.getD]; rw [List.getElem?_take_of_lt (by omega)]
  rw [e, List.take_take, Nat.min_eq_left (by omega)]
  exact h i (by omega)
section
variable {ds ap : List (List Int)} {list frz : List Int}
def SdN (ds ap : List (List Int)) (list frz : List Int) (i : Nat) (nxt : Int → Rs → Bool × Rs) : Prop := ∀ left st, 0 ≤ st.1 → i ≤ st.2.length → Asg ds ap (st.2.take i) → (i = list.length → st.2.length = list.length) → 0 ≤ left → (nxt left st).1 = true → Gd ds ap list frz i left st.2 (nxt left st).2.2
def CpN (ds ap : List (List Int)) (list frz : List Int) (i : Nat) (nxt : Int → Rs → Bool × Rs) : Prop := ∀ left st m, 0 ≤ st.1 → i ≤ st.2.length → Gd ds ap list frz i left st.2 m → (nxt left st).1 = true ∨ (nxt left st).2.1 < 0
theorem tryF_sd {nxt : Int → Rs → Bool × Rs} {i : Nat} (hn : SdN ds ap list frz (i + 1) nxt) (hi : i < list.length) {left : Int} (hl : 0 ≤ left) {st : Rs} (hst : i ≤ st.2.length) (ha : Asg ds ap (st.2.take i)) {c : Int} (hc : ((ds.getD i []).any fun y => y == c) = true)
    (h : (tryF nxt ap i c left st).1 = true) : Gd ds ap list frz (i + 1) left (st.2.take i ++ [c]) (tryF nxt ap i c left st).2.2 := by
  have htl : (st.2.take i).length = i := by rw [List.length_take]; omega
  unfold tryF at h ⊢
  split at h
  · cases h
  · rename_i h0
    rw [if_neg h0]
    split at h
    · cases h
    · rename_i h1
      rw [if_neg h1]
      split at h
      · cases h
      · rename_i h2
        rw [if_neg h2]
        have e : (st.2.take i ++ [c]).take (i + 1) = st.2.take i ++ [c] := List.take_of_length_le (by rw [List.length_append, htl]; simp)
        refine hn left (st.1 - 1, st.2.take i ++ [c]) (by show 0 ≤ st.1 - 1; omega) (by show i + 1 ≤ (st.2.take i ++ [c]).length; rw [List.length_append, htl]; simp) ?_ (fun e2 => by show (st.2.take i ++ [c]).length = _; rw [List.length_append, htl]; simpa using e2) hl h
        show Asg ds ap ((st.2.take i ++ [c]).take (i + 1))
        rw [e]
        exact ha.snoc (by rw [htl]; exact hc) (by simpa using h1)
theorem Gd.back {i : Nat} {left : Int} {p m : List Int} {c : Int} {d : Int} (hi : i < list.length) (hp : i ≤ p.length) (h : Gd ds ap list frz (i + 1) left (p.take i ++ [c]) m) (hd : left + (if c = list.getD i 0 then 0 else 1) ≤ d) (hf : (frz.any fun y => y == ((i : Nat) : Int)) = true → c = list.getD i 0) : Gd ds ap list frz i d p m := by
  have htl : (p.take i).length = i := by rw [List.length_take]; omega
  have h1 := h.pre
  have hm : m.getD i 0 = c := by
    have e : (m.take (i + 1)).getD i 0 = m.getD i 0 := by simp only [List.getD]; rw [List.getElem?_take_of_lt (by omega)]
    rw [← e, h1]
    simp only [List.getD]; rw [List.getElem?_take_of_lt (by omega), List.getElem?_append_right (by omega), htl]; simp
  refine ⟨h.len, ?_, h.asg, ?_, fun j hj hjl hfj => ?_⟩
  · have := take_at h1
    rw [this, List.take_append_of_le_length (by omega), List.take_take, Nat.min_self]
  · have h2 := h.few
    rw [chgN_succ, hm] at h2
    by_cases e : c = list.getD i 0
    · rw [if_pos e] at hd
      have : (c != list.getD i 0) = false := by simp [e]
      rw [this] at h2; simp at h2; omega
    · rw [if_neg e] at hd
      have : (c != list.getD i 0) = true := by simpa using e
      rw [this] at h2; simp at h2; omega
  · by_cases e : j = i
    · subst e; rw [hm]; exact hf hfj
    · exact h.frz j (by omega) hjl hfj
theorem domF_sd {nxt : Int → Rs → Bool × Rs} {i : Nat} (hn : SdN ds ap list frz (i + 1) nxt) (hk : ∀ left st', 0 ≤ st'.1 → st'.2.length = i + 1 → RpK list.length (i + 1) st' (nxt left st')) (hi : i < list.length) {left : Int} (hl : 1 ≤ left) (hfz : (frz.any fun y => y == ((i : Nat) : Int)) = false) : ∀ (cs : List Int) (st : Rs), (∀ c ∈ cs, ((ds.getD i []).any fun y => y == c) = true) → -1 ≤ st.1 → i ≤ st.2.length → Asg ds ap (st.2.take i) →
    (domF nxt ap i (list.getD i 0) left cs st).1 = true → Gd ds ap list frz i left st.2 (domF nxt ap i (list.getD i 0) left cs st).2.2
  | [], st, _, _, _, _, h => by cases h
  | c :: cs, st, hc, h0, hst, ha, h => by
    unfold domF at h ⊢
    by_cases e : c = list.getD i 0
    · rw [if_pos e] at h ⊢
      exact domF_sd hn hk hi hl hfz cs st (fun x hx => hc x (List.mem_cons_of_mem _ hx)) h0 hst ha h
    · rw [if_neg e] at h ⊢
      have ht := tryF_keep (ap := ap) (ch := c) (left := left - 1) hst h0 hk
      by_cases e2 : (tryF nxt ap i c (left - 1) st).1 = true
      · rw [if_pos e2] at h ⊢
        exact (tryF_sd hn hi (by omega) hst ha (hc c List.mem_cons_self) e2).back hi hst (by rw [if_neg e]; omega) fun hf => by rw [hfz] at hf; cases hf
      · rw [if_neg e2] at h ⊢
        have g := domF_sd hn hk hi hl hfz cs _ (fun x hx => hc x (List.mem_cons_of_mem _ hx)) ht.lo ht.le (by rw [ht.keep]; exact ha) h
        exact ⟨g.len, by rw [g.pre, ht.keep], g.asg, g.few, g.frz⟩
theorem repF_sd : ∀ (r : Nat), r ≤ list.length → SdN ds ap list frz (list.length - r) (repF ds ap list frz r)
  | 0, _ => fun left st h0 hst ha hl h1 h => by
    have hl := hl (by omega)
    refine ⟨hl, rfl, ?_, by rw [Nat.sub_zero]; omega, fun j hj hjl _ => by omega⟩
    rw [Nat.sub_zero, List.take_of_length_le (by omega)] at ha
    exact ha
  | r + 1, hr => fun left st h0 hst ha _ h1 h => by
    have ih := repF_sd r (by omega)
    have ei : list.length - r = list.length - (r + 1) + 1 := by omega
    have hk : ∀ left st', 0 ≤ st'.1 → st'.2.length = list.length - (r + 1) + 1 → RpK list.length (list.length - (r + 1) + 1) st' (repF ds ap list frz r left st') := fun left st' g0 g1 => by
      have := repF_keep (ds := ds) (ap := ap) (list := list) (frz := frz) r left st' (by omega) g0 (by omega) (by omega)
      rwa [ei] at this
    rw [ei] at ih
    have hf := fstF_keep (n := list.length) (ap := ap) (dom := ds.getD (list.length - (r + 1)) []) (before := list.getD (list.length - (r + 1)) 0) (left := left) (st := st) hst (by omega) hk
    have hi : list.length - (r + 1) < list.length := by omega
    unfold repF at h ⊢
    generalize list.length - (r + 1) = i at *
    by_cases c1 : (fstF (repF ds ap list frz r) ap (ds.getD i []) i (list.getD i 0) left st).1 = true
    · rw [if_pos c1] at h ⊢
      unfold fstF at c1 ⊢
      by_cases c2 : ((ds.getD i []).any fun y => y == list.getD i 0) = true
      · rw [if_pos c2] at c1 ⊢
        exact (tryF_sd ih hi h1 hst ha c2 c1).back hi hst (by rw [if_pos rfl]; omega) fun _ => rfl
      · rw [if_neg c2] at c1; cases c1
    · rw [if_neg c1] at h ⊢
      by_cases c2 : ((frz.any fun y => y == ((i : Nat) : Int)) || left == 0) = true
      · rw [if_pos c2] at h; cases h
      · rw [if_neg c2] at h ⊢
        simp only [Bool.or_eq_true, not_or, Bool.not_eq_true, beq_eq_false_iff_ne] at c2
        have g := domF_sd ih hk hi (by have := c2.2; omega) c2.1 _ _ (fun c hc => List.any_eq_true.2 ⟨c, hc, by simp⟩) hf.lo hf.le (by rw [hf.keep]; exact ha) h
        exact ⟨g.len, by rw [g.pre, hf.keep], g.asg, g.few, g.frz⟩
/-! nothing is passed by -/
theorem Gd.on {i : Nat} {left : Int} {p m : List Int} (hi : i < list.length) (hp : i ≤ p.length) (h : Gd ds ap list frz i left p m) : Gd ds ap list frz (i + 1) (if m.getD i 0 = list.getD i 0 then left else left - 1) (p.take i ++ [m.getD i 0]) m := by
  refine ⟨h.len, take_snoc (by rw [h.len]; exact hi) h.pre rfl hp, h.asg, ?_, fun j hj => h.frz j (by omega)⟩
  have h2 := h.few
  rw [chgN_succ]
  by_cases e : m.getD i 0 = list.getD i 0
  · have : (m.getD i 0 != list.getD i 0) = false := by simpa using e
    rw [if_pos e, this]; simp; omega
  · have : (m.getD i 0 != list.getD i 0) = true := by simpa using e
    rw [if_neg e, this]; simp; omega
theorem tryF_out {nxt : Int → Rs → Bool × Rs} {i : Nat} {c left : Int} {st : Rs} (h : st.1 < 0) : tryF nxt ap i c left st = (false, st) := by unfold tryF; rw [if_pos h]
theorem domF_out {nxt : Int → Rs → Bool × Rs} {i : Nat} {b left : Int} : ∀ (cs : List Int) (st : Rs), st.1 < 0 → domF nxt ap i b left cs st = (false, st)
  | [], st, h => rfl
  | c :: cs, st, h => by
    unfold domF
    rw [tryF_out h, if_neg (by simp : ¬ (false, st).1 = true), domF_out cs st h]
    split <;> rfl
theorem tryF_cp {nxt : Int → Rs → Bool × Rs} {i : Nat} (hn : CpN ds ap list frz (i + 1) nxt) (hi : i < list.length) {left d : Int} {st : Rs} (h0 : 0 ≤ st.1) (hst : i ≤ st.2.length) {m : List Int} (h : Gd ds ap list frz i d st.2 m) (hd : (if m.getD i 0 = list.getD i 0 then d else d - 1) ≤ left) :
    (tryF nxt ap i (m.getD i 0) left st).1 = true ∨ (tryF nxt ap i (m.getD i 0) left st).2.1 < 0 := by
  have htl : (st.2.take i).length = i := by rw [List.length_take]; omega
  have hfit := (h.asg i (by rw [h.len]; exact hi)).2
  rw [h.pre] at hfit
  unfold tryF
  rw [if_neg (by omega), if_neg (by rw [hfit]; simp)]
  by_cases c : st.1 - 1 < 0
  · rw [if_pos c]; exact .inr c
  · rw [if_neg c]
    have g := h.on hi hst
    exact hn left _ m (by show 0 ≤ st.1 - 1; omega) (by show i + 1 ≤ (st.2.take i ++ [m.getD i 0]).length; rw [List.length_append, htl]; simp) ⟨g.len, g.pre, g.asg, Int.le_trans g.few hd, g.frz⟩
theorem domF_cp {nxt : Int → Rs → Bool × Rs} {i : Nat} (hn : CpN ds ap list frz (i + 1) nxt) (hk : ∀ left st', 0 ≤ st'.1 → st'.2.length = i + 1 → RpK list.length (i + 1) st' (nxt left st')) (hi : i < list.length) {left : Int} {m : List Int} (hne : m.getD i 0 ≠ list.getD i 0) : ∀ (cs : List Int) (st : Rs), m.getD i 0 ∈ cs → -1 ≤ st.1 → i ≤ st.2.length → Gd ds ap list frz i left st.2 m →
    (domF nxt ap i (list.getD i 0) left cs st).1 = true ∨ (domF nxt ap i (list.getD i 0) left cs st).2.1 < 0
  | [], st, hm, _, _, _ => by cases hm
  | c :: cs, st, hm, h0, hst, h => by
    by_cases hneg : st.1 < 0
    · rw [domF_out _ _ hneg]; exact .inr hneg
    unfold domF
    by_cases e : c = list.getD i 0
    · rw [if_pos e]
      refine domF_cp hn hk hi hne cs st ?_ h0 hst h
      rcases List.mem_cons.1 hm with e2 | e2
      · exact absurd (e2.trans e) hne
      · exact e2
    · rw [if_neg e]
      have ht := tryF_keep (ap := ap) (ch := c) (left := left - 1) hst h0 hk
      by_cases e2 : (tryF nxt ap i c (left - 1) st).1 = true
      · rw [if_pos e2]; exact .inl e2
      · rw [if_neg e2]
        have h' : Gd ds ap list frz i left (tryF nxt ap i c (left - 1) st).2.2 m := ⟨h.len, by rw [h.pre, ht.keep], h.asg, h.few, h.frz⟩
        rcases List.mem_cons.1 hm with e3 | e3
        · subst e3
          rcases tryF_cp (left := left - 1) hn hi (by omega) hst h (by rw [if_neg hne]; omega) with g | g
          · exact absurd g e2
          · rw [domF_out _ _ g]; exact .inr g
        · exact domF_cp hn hk hi hne cs _ e3 ht.lo ht.le h'
theorem repF_cp : ∀ (r : Nat), r ≤ list.length → CpN ds ap list frz (list.length - r) (repF ds ap list frz r)
  | 0, _ => fun left st m h0 hst h => .inl rfl
  | r + 1, hr => fun left st m h0 hst h => by
    have ih := repF_cp r (by omega)
    have ei : list.length - r = list.length - (r + 1) + 1 := by omega
    have hk : ∀ left st', 0 ≤ st'.1 → st'.2.length = list.length - (r + 1) + 1 → RpK list.length (list.length - (r + 1) + 1) st' (repF ds ap list frz r left st') := fun left st' g0 g1 => by
      have := repF_keep (ds := ds) (ap := ap) (list := list) (frz := frz) r left st' (by omega) g0 (by omega) (by omega)
      rwa [ei] at this
    rw [ei] at ih
    have hf := fstF_keep (n := list.length) (ap := ap) (dom := ds.getD (list.length - (r + 1)) []) (before := list.getD (list.length - (r + 1)) 0) (left := left) (st := st) hst (by omega) hk
    have hi : list.length - (r + 1) < list.length := by omega
    unfold repF
    generalize list.length - (r + 1) = i at *
    have hdm := (h.asg i (by rw [h.len]; exact hi)).1
    by_cases c1 : (fstF (repF ds ap list frz r) ap (ds.getD i []) i (list.getD i 0) left st).1 = true
    · rw [if_pos c1]; exact .inl c1
    rw [if_neg c1]
    by_cases hneg : (fstF (repF ds ap list frz r) ap (ds.getD i []) i (list.getD i 0) left st).2.1 < 0
    · by_cases c2 : ((frz.any fun y => y == ((i : Nat) : Int)) || left == 0) = true
      · rw [if_pos c2]; exact .inr hneg
      · rw [if_neg c2, domF_out _ _ hneg]; exact .inr hneg
    by_cases e : m.getD i 0 = list.getD i 0
    · exfalso
      unfold fstF at c1 hneg
      rw [e] at hdm
      rw [if_pos hdm] at c1 hneg
      rcases tryF_cp (left := left) ih hi h0 hst h (by rw [if_pos e]; omega) with g | g <;> rw [e] at g
      · exact c1 g
      · exact hneg g
    · have c2 : ((frz.any fun y => y == ((i : Nat) : Int)) || left == 0) = false := by
        rw [Bool.or_eq_false_iff]
        constructor
        · cases hz : (frz.any fun y => y == ((i : Nat) : Int)) with
          | false => rfl
          | true => exact absurd (h.frz i (Nat.le_refl _) hi hz) e
        · have h2 := (h.on hi hst).few
          rw [if_neg e] at h2
          have := chgN_mono m list (show i + 1 ≤ list.length by omega)
          simp; omega
      rw [if_neg (by rw [c2]; simp)]
      obtain ⟨y, hy, e2⟩ := List.any_eq_true.1 hdm
      rw [beq_iff_eq] at e2
      exact domF_cp ih hk hi e _ _ (e2 ▸ hy) hf.lo hf.le ⟨h.len, by rw [h.pre, hf.keep], h.asg, h.few, h.frz⟩
theorem chgN_0 (a b : List Int) : chgN a b 0 = 0 := rfl
theorem Gd.wk {e d : Int} {p q m : List Int} (h : Gd ds ap list frz 0 e p m) (hd : (chgN m list list.length : Int) ≤ d) : Gd ds ap list frz 0 d q m := ⟨h.len, rfl, h.asg, by rw [chgN_0]; omega, h.frz⟩
theorem top_sd {m : Nat} {st : Rs} (hz : list.length ≠ 0) (h0 : 0 ≤ st.1) (h : (repF ds ap list frz list.length (m : Int) st).1 = true) : Gd ds ap list frz 0 (m : Int) [] (repF ds ap list frz list.length (m : Int) st).2.2 := by
  have hs := repF_sd (ds := ds) (ap := ap) (list := list) (frz := frz) list.length (Nat.le_refl _)
  rw [Nat.sub_self] at hs
  have g := hs (m : Int) st h0 (Nat.zero_le _) (fun i hi => by simp at hi) (fun e => absurd e.symm hz) (by omega) h
  exact ⟨g.len, rfl, g.asg, g.few, g.frz⟩
theorem top_cp {m : Nat} {st : Rs} (h0 : 0 ≤ st.1) (hm : ∀ x, Gd ds ap list frz 0 (m : Int) [] x → (m : Int) ≤ chgN x list list.length) (h : ¬ (repF ds ap list frz list.length (m : Int) st).1 = true) (h2 : ¬ (repF ds ap list frz list.length (m : Int) st).2.1 < 0) :
    ∀ e x, Gd ds ap list frz 0 e [] x → ((m + 1 : Nat) : Int) ≤ chgN x list list.length := fun e x hx => by
  refine Classical.byContradiction fun hc => ?_
  have hc := repF_cp (ds := ds) (ap := ap) (list := list) (frz := frz) list.length (Nat.le_refl _)
  rw [Nat.sub_self] at hc
  rcases hc (m : Int) st x h0 (Nat.zero_le _) (hx.wk (by omega)) with g | g
  · exact h g
  · exact h2 g
theorem topF_ok (hz : list.length ≠ 0) : ∀ (k m : Nat) (st : Rs), 0 ≤ st.1 → (∀ e x, Gd ds ap list frz 0 e [] x → (m : Int) ≤ chgN x list list.length) → (topF ds ap list frz k m st).1 = true →
    Gd ds ap list frz 0 (list.length : Int) [] (topF ds ap list frz k m st).2.2 ∧ ∀ (e : Int) x, Gd ds ap list frz 0 e [] x → chgN (topF ds ap list frz k m st).2.2 list list.length ≤ chgN x list list.length
  | 0, m, st, _, _, h => by cases h
  | k + 1, m, st, h0, hm, h => by
    unfold topF at h ⊢
    by_cases c1 : (repF ds ap list frz list.length (m : Int) st).1 = true
    · rw [if_pos c1] at h ⊢
      have g := top_sd hz h0 c1
      refine ⟨g.wk (by have := chgN_le (repF ds ap list frz list.length (m : Int) st).2.2 list list.length; omega), fun e x hx => ?_⟩
      have g1 := g.few
      have g2 := hm e x hx
      rw [chgN_0] at g1
      omega
    · rw [if_neg c1] at h ⊢
      by_cases c2 : (repF ds ap list frz list.length (m : Int) st).2.1 < 0
      · rw [if_pos c2] at h; exact absurd h c1
      · rw [if_neg c2] at h ⊢
        exact topF_ok hz k (m + 1) _ (by omega) (top_cp h0 (hm _) c1 c2) h
theorem topF_no : ∀ (k m : Nat) (st : Rs), 0 ≤ st.1 → k + m = list.length + 1 → (∀ e x, Gd ds ap list frz 0 e [] x → (m : Int) ≤ chgN x list list.length) → (topF ds ap list frz k m st).1 = false → ¬ (topF ds ap list frz k m st).2.1 < 0 →
    ∀ (e : Int) x, ¬ Gd ds ap list frz 0 e [] x
  | 0, m, st, _, hk, hm, _, _ => fun e x hx => by
    have := hm e x hx
    have := chgN_le x list list.length
    omega
  | k + 1, m, st, h0, hk, hm, h, h2 => by
    unfold topF at h h2
    by_cases c1 : (repF ds ap list frz list.length (m : Int) st).1 = true
    · rw [if_pos c1, c1] at h; cases h
    · rw [if_neg c1] at h h2
      by_cases c2 : (repF ds ap list frz list.length (m : Int) st).2.1 < 0
      · rw [if_pos c2] at h2; exact absurd c2 h2
      · rw [if_neg c2] at h h2
        exact topF_no k (m + 1) _ (by omega) (by omega) (top_cp h0 (hm _) c1 c2) h h2
end
end Go.Proofs.Yteknfaldpajlpaa.Nb

namespace Go.Proofs.Yteknfaldpajlpaa.Nb
open Go Go.RowKit Go.Proofs.Yteknfaldpajlpaa.Aw Go.Proofs.Yteknfaldpajlpaa.In Go.Proofs.Yteknfaldpajlpaa.Il
set_option linter.unusedSimpArgs false
set_option linter.unusedVariables false
set_option linter.unusedSectionVars false
attribute [local irreducible] AW SQ Step RO RC DE Thn InB
theorem isAssignment_ok (ds ap : List (List Int)) (m : List Int) (hS : NbS ds) (hl : m.length = ds.length) (hd : ∀ i, i < m.length → ((ds.getD i []).any fun y => y == m.getD i 0) = true) (k : Nat) :
    RO Try.prog 79 [.agg [.dsl 1 (nbL ds), .dsl 1 (nbL ap)], .dsl 1 (m.map inL)] k (.v (.bool true)) [] k := by
  have hnl := nbL_len ds
  have hnn := hS.n
  have hml : (m.map inL).length = m.length := List.length_map _
  have b0 : (((m.map inL).length : Int) != ((nbL ds).length : Int)) = false := by rw [hml, hnl, hl]; simp
  refine RO.ofv' Try.func79 Try.ntmps79 rfl (goFn_of Try.func79 rfl (by kernel_rfl)) rfl rfl ?_
  ((repeat' (first
    | (show SQ _ _ _ _ _ _ _ _; apply sq_frzp (t := 2); exact rfl; exact rfl; exact (by first | rfl | exact all_noOwn_map (fun _ => rfl) | assumption | exact hclo); exact (by first | rfl | assumption); exact rfl; (try simp only [put, rowsOf, plR, List.all_cons, selE, ovr, setH, del, cellsA, splice, isV, List.nil_append, List.cons_append, List.map_cons, List.map_nil, List.length_cons, List.length_nil, List.set_cons_zero, List.set_cons_succ, List.take_succ_cons, List.take_zero, List.take_nil, List.drop_succ_cons, List.drop_zero, List.drop_nil, List.append_nil, List.all_cons, List.all_nil, Bool.and_true, Bool.true_and, Bool.and_false, Bool.false_and, Nat.reduceAdd, Nat.zero_add, Nat.add_zero, Nat.reduceEqDiff, if_true, if_false, reduceIte]))
    | (show SQ _ _ _ _ _ _ _ _; first | apply sq_nil | (apply q_move; exact rfl; exact rfl) | (apply q_assign; exact rfl; exact rfl) | (apply q_fieldAddr; exact rfl; exact rfl; exact (ty rfl); exact rfl; exact rfl; exact rfl; exact rfl) | (apply q_lend; exact rfl; exact rfl; exact (ty rfl); exact rfl) | (apply q_neq; exact rfl; exact rfl; exact rfl) | (apply q_ld1d; exact rfl; exact rfl; exact (ty rfl); exact rfl; exact rfl))
    | (show SQ _ _ _ _ _ _ _ _; (first | (apply q_box; exact rfl; exact rfl; exact rfl)); (try simp only [put, rowsOf, plR, List.all_cons, selE, ovr, setH, del, cellsA, splice, isV, List.nil_append, List.cons_append, List.map_cons, List.map_nil, List.length_cons, List.length_nil, List.set_cons_zero, List.set_cons_succ, List.take_succ_cons, List.take_zero, List.take_nil, List.drop_succ_cons, List.drop_zero, List.drop_nil, List.append_nil, List.all_cons, List.all_nil, Bool.and_true, Bool.true_and, Bool.and_false, Bool.false_and, Nat.reduceAdd, Nat.zero_add, Nat.add_zero, Nat.reduceEqDiff, if_true, if_false, reduceIte]))
    | (show AW _ _ _ _ _ _ _ _; first | refine aw_region ?_ | (refine aw_seqk ?_; intro K hK) | refine aw_block ?_ | (apply aw_cond_f; exact rfl; exact (by assumption)) | refine aw_skip ?_)
    | refine thn_n ?_
    | (refine hK _ _ _ ?_; clear hK K))); all_goals (repeat (clear hK K)))
  refine aw_loop (ρ := id) (ι := Nat) (fun i => ([(15, .v (.int .i64 i)), (14, .v (.int .i64 (m.length : Nat))), (13, .dsl 1 (m.map inL)), (2, .dptr [.dsl 1 (nbL ds), .dsl 1 (nbL ap)])], [], 1))
    (fun i => i ≤ m.length) (fun i => m.length - i) 0 (Nat.zero_le _) ⟨by (repeat (refine ⟨by first | exact lk_i rfl rfl | exact lk_i rfl (by (try dsimp only); first | rfl | omega | (rw [IntWalk.i64_in _ (by omega)]; first | rfl | omega | (push_cast; omega)) | (simp; done) | (simp; omega)) | exact lk_d rfl rfl | exact lk_p rfl rfl, ?_⟩)); exact trivial, by exact trivial, by rfl, by exact pin_0⟩ ?_
  intro i hi
  by_cases c1 : i < m.length
  · have b1 : decide ((i : Int) < (m.length : Int)) = true := by simpa using c1
    have hr1 : (m.map inL)[((i : Int)).toNat]? = some (inL (m.getD i 0)) := by simp [c1, List.getD]
    rw [inL_eq] at hr1
    have hid : i < ds.length := by omega
    have hr2 := nbL_get hid
    have hdi := hd i c1
    have hg : ds.getD i [] = ds[i] := by simp [List.getD, hid]
    rw [hg] at hdi
    have hC := slContains_ro ds[i] (ds[i].map inL) (m.getD i 0) rfl (hS.m _ (List.getElem_mem hid))
    rw [hdi] at hC
    have hw : IntKind.i64.wrap ((i : Int) + 1) = ((i + 1 : Nat) : Int) := by rw [IntWalk.i64_in _ (by omega)]; omega
    ((repeat' (first
    | (show SQ _ _ _ _ _ _ _ _; first | apply sq_nil | (apply q_move; exact rfl; exact rfl) | (apply q_assign; exact rfl; exact rfl) | (apply q_fieldAddr; exact rfl; exact rfl; exact (ty rfl); exact rfl; exact rfl; exact rfl; exact rfl) | (apply q_not; exact rfl; exact rfl) | (apply q_add; exact rfl; exact rfl; exact rfl) | (apply q_lss; exact rfl; exact rfl; exact rfl) | (apply q_ixd; exact rfl; exact rfl; exact rfl; exact (ty rfl); exact rfl; exact (by first | omega | (simp; done) | (simp; omega)); exact (by first | omega | (simp; done) | (simp; omega)); exact (by first | rfl | assumption)) | (apply q_ld1d; exact rfl; exact rfl; exact (ty rfl); exact rfl; exact rfl))
    | (show SQ _ _ _ _ _ _ _ _; (first | (apply q_callU; exact rfl; exact rfl; exact rfl; exact FzL.of rfl; exact hC _)); (try simp only [put, rowsOf, plR, List.all_cons, selE, ovr, setH, del, cellsA, splice, isV, List.nil_append, List.cons_append, List.map_cons, List.map_nil, List.length_cons, List.length_nil, List.set_cons_zero, List.set_cons_succ, List.take_succ_cons, List.take_zero, List.take_nil, List.drop_succ_cons, List.drop_zero, List.drop_nil, List.append_nil, List.all_cons, List.all_nil, Bool.and_true, Bool.true_and, Bool.and_false, Bool.false_and, Nat.reduceAdd, Nat.zero_add, Nat.add_zero, Nat.reduceEqDiff, if_true, if_false, reduceIte]))
    | (show AW _ _ _ _ _ _ _ _; first | refine aw_region ?_ | (refine aw_seqk ?_; intro K hK) | refine aw_block ?_ | (apply aw_cond_f; exact rfl; exact rfl) | (apply aw_cond_t; exact rfl; exact (by assumption)) | refine aw_skip ?_)
    | refine thn_n ?_
    | (refine hK _ _ _ ?_; clear hK K)
    | refine inb_n ?_)); all_goals (repeat (clear hK K)))
    all_goals (refine ⟨i + 1, id, c1, by omega, ?_⟩; (try dsimp only); rw [← hw]; exact ⟨by (repeat (refine ⟨by first | exact lk_i rfl rfl | exact lk_d rfl rfl | exact lk_p rfl rfl, ?_⟩)); exact trivial, by exact trivial, by rfl, by exact pin_0⟩)
  · have b1 : decide ((i : Int) < (m.length : Int)) = false := by simpa using c1
    ((repeat' (first
    | (show SQ _ _ _ _ _ _ _ _; first | apply sq_nil | (apply q_assign; exact rfl; exact rfl) | (apply q_lss; exact rfl; exact rfl; exact rfl))
    | (show AW _ _ _ _ _ _ _ _; first | refine aw_region ?_ | (refine aw_seqk ?_; intro K hK) | (apply aw_cond_f; exact rfl; exact (by assumption)) | refine aw_ret ?_ | refine aw_exit ?_)
    | refine thn_n ?_
    | (refine hK _ _ _ ?_; clear hK K)
    | refine thn_e ?_
    | refine inb_same ?_
    | (clear hK K; refine hK _ _ _ ?_; clear hK K))); all_goals (repeat (clear hK K)))
    all_goals exact fin_r (fin_b rfl rfl)
theorem violations_ok (ds ap : List (List Int)) (m : List Int) (hA : NbS ap) (hal : ap.length = m.length) (hrows : ∀ i, i < ap.length → (ap.getD i []).length = m.length) (hv : ∀ x ∈ m, 0 ≤ x ∧ x ≤ 999) (hn : m.length ≤ 24)
    (hd : ∀ i j, i < j → j < m.length → ¬ max (m.getD i 0 - m.getD j 0) (-(m.getD i 0 - m.getD j 0)) < (ap.getD i []).getD j 0) (k : Nat) :
    RO Try.prog 80 [.agg [.dsl 1 (nbL ds), .dsl 1 (nbL ap)], .dsl 1 (m.map inL)] k (.v (.slice none 0 0)) [] k := by
  have hnl := nbL_len ap
  have hml : (m.map inL).length = m.length := List.length_map _
  refine RO.ofv' Try.func80 Try.ntmps80 rfl (goFn_of Try.func80 rfl (by kernel_rfl)) rfl rfl ?_
  ((repeat' (first
    | (show SQ _ _ _ _ _ _ _ _; apply sq_frzp (t := 2); exact rfl; exact rfl; exact (by first | rfl | exact all_noOwn_map (fun _ => rfl) | assumption | exact hclo); exact (by first | rfl | assumption); exact rfl; (try simp only [put, rowsOf, plR, List.all_cons, selE, ovr, setH, del, cellsA, splice, isV, List.nil_append, List.cons_append, List.map_cons, List.map_nil, List.length_cons, List.length_nil, List.set_cons_zero, List.set_cons_succ, List.take_succ_cons, List.take_zero, List.take_nil, List.drop_succ_cons, List.drop_zero, List.drop_nil, List.append_nil, List.all_cons, List.all_nil, Bool.and_true, Bool.true_and, Bool.and_false, Bool.false_and, Nat.reduceAdd, Nat.zero_add, Nat.add_zero, Nat.reduceEqDiff, if_true, if_false, reduceIte]))
    | (show SQ _ _ _ _ _ _ _ _; first | apply sq_nil | (apply q_move; exact rfl; exact rfl) | (apply q_assign; exact rfl; exact rfl) | (apply q_lend; exact rfl; exact rfl; exact (ty rfl); exact rfl))
    | (show SQ _ _ _ _ _ _ _ _; (first | (apply q_box; exact rfl; exact rfl; exact rfl)); (try simp only [put, rowsOf, plR, List.all_cons, selE, ovr, setH, del, cellsA, splice, isV, List.nil_append, List.cons_append, List.map_cons, List.map_nil, List.length_cons, List.length_nil, List.set_cons_zero, List.set_cons_succ, List.take_succ_cons, List.take_zero, List.take_nil, List.drop_succ_cons, List.drop_zero, List.drop_nil, List.append_nil, List.all_cons, List.all_nil, Bool.and_true, Bool.true_and, Bool.and_false, Bool.false_and, Nat.reduceAdd, Nat.zero_add, Nat.add_zero, Nat.reduceEqDiff, if_true, if_false, reduceIte]))
    | (show AW _ _ _ _ _ _ _ _; first | refine aw_region ?_ | (refine aw_seqk ?_; intro K hK) | refine aw_block ?_)
    | refine thn_n ?_
    | (refine hK _ _ _ ?_; clear hK K))); all_goals (repeat (clear hK K)))
  refine aw_loop (ρ := id) (ι := Nat) (fun i => ([(10, .v (.int .i64 i)), (9, .v (.int .i64 (m.length : Nat))), (5, .v (.slice none 0 0)), (2, .dptr [.dsl 1 (nbL ds), .dsl 1 (nbL ap)]), (1, .dsl 1 (m.map inL))], [], 1))
    (fun i => i ≤ m.length) (fun i => m.length - i) 0 (Nat.zero_le _) ⟨by (repeat (refine ⟨by first | exact lk_i rfl rfl | exact lk_i rfl (by (try dsimp only); first | rfl | omega | (rw [IntWalk.i64_in _ (by omega)]; first | rfl | omega | (push_cast; omega)) | (simp; done) | (simp; omega)) | exact lk_d rfl rfl | exact lk_v rfl rfl | exact lk_p rfl rfl, ?_⟩)); exact trivial, by exact trivial, by rfl, by exact pin_0⟩ ?_
  intro i hi
  by_cases c1 : i < m.length
  · have b1 : decide ((i : Int) < (m.length : Int)) = true := by simpa using c1
    have hr1 : (m.map inL)[((i : Int)).toNat]? = some (inL (m.getD i 0)) := by simp [c1, List.getD]
    rw [inL_eq] at hr1
    have hid : i < ap.length := by omega
    have hr2 := nbL_get hid
    have hg : ap.getD i [] = ap[i] := by simp [List.getD, hid]
    have hro := hrows i hid
    rw [hg] at hro
    have hw : IntKind.i64.wrap ((i : Int) + 1) = ((i + 1 : Nat) : Int) := by rw [IntWalk.i64_in _ (by omega)]; omega
    have hvi : 0 ≤ m.getD i 0 ∧ m.getD i 0 ≤ 999 := by have := hv _ (List.getElem_mem c1); simpa [List.getD, c1] using this
    ((repeat' (first
    | (show SQ _ _ _ _ _ _ _ _; first | apply sq_nil | (apply q_move; exact rfl; exact rfl) | (apply q_assign; exact rfl; exact rfl) | (apply q_add; exact rfl; exact rfl; exact rfl) | (apply q_lss; exact rfl; exact rfl; exact rfl))
    | (show AW _ _ _ _ _ _ _ _; first | refine aw_region ?_ | (refine aw_seqk ?_; intro K hK) | refine aw_block ?_ | (apply aw_cond_t; exact rfl; exact (by assumption)) | refine aw_skip ?_)
    | refine thn_n ?_
    | (refine hK _ _ _ ?_; clear hK K))); all_goals (repeat (clear hK K)))
    refine aw_loop (ρ := id) (ι := Nat) (fun j => ([(10, .v (.int .i64 i)), (9, .v (.int .i64 (m.length : Nat))), (7, .v (.int .i64 j)), (6, .v (.int .i64 i)), (5, .v (.slice none 0 0)), (2, .dptr [.dsl 1 (nbL ds), .dsl 1 (nbL ap)]), (1, .dsl 1 (m.map inL))], [], 1))
      (fun j => i < j ∧ j ≤ m.length) (fun j => m.length - j) (i + 1) ⟨Nat.lt_succ_self _, c1⟩ (by (try dsimp only); rw [← hw]; exact ⟨by (repeat (refine ⟨by first | exact lk_i rfl rfl | exact lk_d rfl rfl | exact lk_v rfl rfl | exact lk_p rfl rfl, ?_⟩)); exact trivial, by exact trivial, by rfl, by exact pin_0⟩) ?_
    rintro j ⟨hij, hj⟩
    by_cases c2 : j < m.length
    · have b2 : decide ((j : Int) < ((m.map inL).length : Int)) = true := by rw [hml]; simpa using c2
      have hr3 : (m.map inL)[((j : Int)).toNat]? = some (inL (m.getD j 0)) := by simp [c2, List.getD]
      rw [inL_eq] at hr3
      have hr4 : (ap[i].map inL)[((j : Int)).toNat]? = some (inL (ap[i].getD j 0)) := by simp [show j < ap[i].length by omega, List.getD]
      rw [inL_eq] at hr4
      have hjr : j < (ap[i].map inL).length := by rw [List.length_map]; omega
      have hvj : 0 ≤ m.getD j 0 ∧ m.getD j 0 ≤ 999 := by have := hv _ (List.getElem_mem c2); simpa [List.getD, c2] using this
      have hdd := hd i j hij c2
      rw [hg] at hdd
      have hw2 : IntKind.i64.wrap ((j : Int) + 1) = ((j + 1 : Nat) : Int) := by rw [IntWalk.i64_in _ (by omega)]; omega
      generalize m.getD i 0 = x at *
      generalize m.getD j 0 = y at *
      generalize ap[i].getD j 0 = a at *
      have hwd : IntKind.i64.wrap (x - y) = x - y := IntWalk.i64_in _ (by omega)
      have hAb := abs_ro (IntKind.i64.wrap (x - y)) (by rw [hwd]; omega) (by rw [hwd]; omega)
      rw [show max (IntKind.i64.wrap (x - y)) (-IntKind.i64.wrap (x - y)) = max (x - y) (-(x - y)) by rw [hwd]] at hAb
      have b3 : decide (max (x - y) (-(x - y)) < a) = false := by simpa using hdd
      ((repeat' (first
    | (show SQ _ _ _ _ _ _ _ _; first | apply sq_nil | (apply q_move; exact rfl; exact rfl) | (apply q_assign; exact rfl; exact rfl) | (apply q_lend; exact rfl; exact rfl; exact (ty rfl); exact rfl) | (apply q_add; exact rfl; exact rfl; exact rfl) | (apply q_lss; exact rfl; exact rfl; exact rfl))
    | (show DE _ _ _ _ _ _ _ _ _ _ _ _; first | (apply e_move; exact rfl; exact rfl; exact rfl) | (apply e_fieldAddr; exact rfl; exact rfl; exact (ty rfl); exact rfl; exact rfl; exact rfl; exact rfl; exact rfl) | (apply e_sub; exact rfl; exact rfl; exact rfl; exact rfl) | (apply e_lss; exact rfl; exact rfl; exact rfl; exact rfl) | (apply e_ixd; exact rfl; exact rfl; exact rfl; exact (ty rfl); exact rfl; exact (by first | omega | (simp; done) | (simp; omega)); exact (by first | omega | (simp; done) | (simp; omega)); exact (by first | rfl | assumption); exact rfl) | (apply e_ld1d; exact rfl; exact rfl; exact (ty rfl); exact rfl; exact rfl; exact rfl))
    | (show DE _ _ _ _ _ _ _ _ _ _ _ _; (first | (apply dr_nil; exact trivial) | (apply e_callU; exact rfl; exact rfl; exact rfl; exact FzL.of rfl; exact hAb _; exact rfl)); (try simp only [put, rowsOf, plR, List.all_cons, selE, ovr, setH, del, cellsA, splice, isV, List.nil_append, List.cons_append, List.map_cons, List.map_nil, List.length_cons, List.length_nil, List.set_cons_zero, List.set_cons_succ, List.take_succ_cons, List.take_zero, List.take_nil, List.drop_succ_cons, List.drop_zero, List.drop_nil, List.append_nil, List.all_cons, List.all_nil, Bool.and_true, Bool.true_and, Bool.and_false, Bool.false_and, Nat.reduceAdd, Nat.zero_add, Nat.add_zero, Nat.reduceEqDiff, if_true, if_false, reduceIte]))
    | (show AW _ _ _ _ _ _ _ _; first | refine aw_region ?_ | (refine aw_seqk ?_; intro K hK) | refine aw_block ?_ | (apply aw_cond_t; exact rfl; exact (by assumption)) | (apply aw_cond_f; exact rfl; exact (by assumption)) | refine aw_skip ?_ | refine aw_drawE (id := 8) [0, 0, 3, 7, 0, 0, 48, 112, 255, 511, 0, 1024, 0, 7168, 15360, 0, 64512, 130048, 262143] [0, 0, 0, 1, 0, 0, 0, 1, 0, 1, 0, 1, 0, 0, 1, 0, 0, 1, 0] mixed (by kernel_rfl) ?_)
    | refine thn_n ?_
    | (refine hK _ _ _ ?_; clear hK K)
    | refine inb_n ?_)); all_goals (repeat (clear hK K)))
      all_goals (refine ⟨j + 1, id, ⟨by omega, c2⟩, by omega, ?_⟩; (try dsimp only); rw [← hw2]; exact ⟨by (repeat (refine ⟨by first | exact lk_i rfl rfl | exact lk_d rfl rfl | exact lk_v rfl rfl | exact lk_p rfl rfl, ?_⟩)); exact trivial, by exact trivial, by rfl, by exact pin_0⟩)
    · have b2 : decide ((j : Int) < ((m.map inL).length : Int)) = false := by rw [hml]; simpa using c2
      ((repeat' (first
    | (show SQ _ _ _ _ _ _ _ _; first | apply sq_nil | (apply q_move; exact rfl; exact rfl) | (apply q_lend; exact rfl; exact rfl; exact (ty rfl); exact rfl) | (apply q_add; exact rfl; exact rfl; exact rfl) | (apply q_lss; exact rfl; exact rfl; exact rfl))
    | (show AW _ _ _ _ _ _ _ _; first | refine aw_region ?_ | (refine aw_seqk ?_; intro K hK) | (apply aw_cond_f; exact rfl; exact (by assumption)) | refine aw_exit ?_)
    | refine thn_n ?_
    | (refine hK _ _ _ ?_; clear hK K)
    | refine thn_e ?_
    | refine inb_same ?_
    | refine inb_n ?_
    | (clear hK K; refine hK _ _ _ ?_; clear hK K))); all_goals (repeat (clear hK K)))
      all_goals (refine ⟨i + 1, id, c1, by omega, ?_⟩; (try dsimp only); rw [← hw]; exact ⟨by (repeat (refine ⟨by first | exact lk_i rfl rfl | exact lk_d rfl rfl | exact lk_v rfl rfl | exact lk_p rfl rfl, ?_⟩)); exact trivial, by exact trivial, by rfl, by exact pin_0⟩)
  · have b1 : decide ((i : Int) < (m.length : Int)) = false := by simpa using c1
    ((repeat' (first
    | (show SQ _ _ _ _ _ _ _ _; first | apply sq_nil | (apply q_move; exact rfl; exact rfl) | (apply q_assign; exact rfl; exact rfl) | (apply q_lss; exact rfl; exact rfl; exact rfl))
    | (show AW _ _ _ _ _ _ _ _; first | refine aw_region ?_ | (refine aw_seqk ?_; intro K hK) | (apply aw_cond_f; exact rfl; exact (by assumption)) | refine aw_ret ?_ | refine aw_exit ?_)
    | refine thn_n ?_
    | (refine hK _ _ _ ?_; clear hK K)
    | refine thn_e ?_
    | refine inb_same ?_
    | (clear hK K; refine hK _ _ _ ?_; clear hK K))); all_goals (repeat (clear hK K)))
    all_goals exact fin_r (fin_v (.r1 _ _ (.tmp _ _ rfl)))
structure PrF (ds ap : List (List Int)) : Prop where
  n : ds.length ≤ 24
  n1 : 1 ≤ ds.length
  a : ap.length = ds.length
  rows : ∀ i, i < ap.length → (ap.getD i []).length = ds.length
  sym : ∀ i j, j < i → i < ap.length → (ap.getD i []).getD j 0 = (ap.getD j []).getD i 0
  dom : ∀ d ∈ ds, d.length ≤ 32 ∧ ∀ x ∈ d, 0 ≤ x ∧ x ≤ 999
theorem PrF.of {ds ap : List (List Int)} (h : prB ds ap = true) : PrF ds ap := by
  simp only [prB, domsB, Bool.and_eq_true, decide_eq_true_eq, Bool.not_eq_true', List.any_eq_false, List.all_eq_true, List.mem_range] at h
  obtain ⟨⟨⟨⟨h1, h2⟩, h3⟩, h4⟩, h5⟩ := h
  refine ⟨h2, h1, h4, fun i hi => ?_, fun i j hj hi => ?_, fun d hd => ?_⟩
  · have := h5 i hi
    simp only [rowB, Bool.and_eq_true, decide_eq_true_eq] at this
    exact this.1.1.1
  · have := h5 i hi
    simp only [rowB, Bool.and_eq_true, List.all_eq_true, List.mem_range] at this
    have := this.2 j hj
    simpa [symB] using this
  · have h6 := h3 d hd
    have h7 : domB d = true := by cases e : domB d with | true => rfl | false => exact absurd (by rw [e]) h6
    simp only [domB, Bool.and_eq_true, decide_eq_true_eq, Bool.not_eq_true', List.any_eq_false] at h7
    refine ⟨by omega, fun x hx => ?_⟩
    have := h7.2 x hx
    simpa [inB] using this
theorem Asg.val {ds ap : List (List Int)} {m : List Int} (hP : PrF ds ap) (h : Asg ds ap m) (hl : m.length = ds.length) : ∀ x ∈ m, 0 ≤ x ∧ x ≤ 999 := fun x hx => by
  obtain ⟨i, hi, rfl⟩ := List.getElem_of_mem hx
  have h1 := (h i hi).1
  obtain ⟨y, hy, e⟩ := List.any_eq_true.1 h1
  have hid : i < ds.length := by omega
  have hg : ds.getD i [] = ds[i] := by simp [List.getD, hid]
  rw [hg] at hy
  have := (hP.dom _ (List.getElem_mem hid)).2 y hy
  have e2 : m.getD i 0 = m[i] := by simp [List.getD, hi]
  rw [beq_iff_eq] at e
  rw [← e2, ← e]; exact this
theorem Asg.far {ds ap : List (List Int)} {m : List Int} (hP : PrF ds ap) (h : Asg ds ap m) (hl : m.length = ds.length) : ∀ i j, i < j → j < m.length → ¬ max (m.getD i 0 - m.getD j 0) (-(m.getD i 0 - m.getD j 0)) < (ap.getD i []).getD j 0 := fun i j hij hj => by
  have h2 := (h j hj).2
  have htl : (m.take j).length = j := by rw [List.length_take]; omega
  rw [fitB, htl, beq_iff_eq, cfN_zero] at h2
  have h3 := h2 i hij
  have e : (m.take j).getD i 0 = m.getD i 0 := by simp only [List.getD]; rw [List.getElem?_take_of_lt hij]
  rw [cfl, e, hP.sym j i hij (by rw [hP.a]; omega)] at h3
  have : decide (i ≠ j) = true := by rw [decide_eq_true_eq]; omega
  rw [this, Bool.true_and, decide_eq_false_iff_not] at h3
  omega
theorem ValidAssignment_ok (ds ap : List (List Int)) (m : List Int) (hS : NbS ds) (hA : NbS ap) (h : prB ds ap = true) (hm : Asg ds ap m) (hl : m.length = ds.length) (k : Nat) :
    RO Try.prog 35 [.agg [.dsl 1 (nbL ds), .dsl 1 (nbL ap)], .dsl 1 (m.map inL)] k (.v (.bool true)) [] k := by
  have hP := PrF.of h
  have hV := ValidProblem_ro ds ap hS hA
  rw [h] at hV
  have hI := isAssignment_ok ds ap m hS hl fun i hi => (hm i hi).1
  have hW := violations_ok ds ap m hA (by rw [hP.a, hl]) (fun i hi => by rw [hP.rows i hi, hl]) (hm.val hP hl) (by have := hP.n; omega) (hm.far hP hl)
  refine RO.ofv' Try.func35 Try.ntmps35 rfl (goFn_of Try.func35 rfl (by kernel_rfl)) rfl rfl ?_
  ((repeat' (first
    | (show SQ _ _ _ _ _ _ _ _; apply sq_frzp (t := 2); exact rfl; exact rfl; exact (by first | rfl | exact all_noOwn_map (fun _ => rfl) | assumption | exact hclo); exact (by first | rfl | assumption); exact rfl; (try simp only [put, rowsOf, plR, List.all_cons, selE, ovr, setH, del, cellsA, splice, isV, List.nil_append, List.cons_append, List.map_cons, List.map_nil, List.length_cons, List.length_nil, List.set_cons_zero, List.set_cons_succ, List.take_succ_cons, List.take_zero, List.take_nil, List.drop_succ_cons, List.drop_zero, List.drop_nil, List.append_nil, List.all_cons, List.all_nil, Bool.and_true, Bool.true_and, Bool.and_false, Bool.false_and, Nat.reduceAdd, Nat.zero_add, Nat.add_zero, Nat.reduceEqDiff, if_true, if_false, reduceIte]))
    | (show SQ _ _ _ _ _ _ _ _; first | apply sq_nil | (apply q_move; exact rfl; exact rfl) | (apply q_assign; exact rfl; exact rfl) | (apply q_pick_t; exact rfl; exact rfl; exact rfl; exact (by first | assumption | exact rfl)) | (apply q_lenn; exact rfl; exact rfl; exact (ty rfl); exact rfl) | (apply q_eql; exact rfl; exact rfl; exact rfl) | (apply q_g; exact rfl; exact rfl; exact rfl; exact rfl))
    | (show SQ _ _ _ _ _ _ _ _; (first | (apply q_ldad; exact rfl; exact rfl; exact (ty rfl); exact rfl; exact rfl) | (apply q_box; exact rfl; exact rfl; exact rfl) | (apply q_callU; exact rfl; exact rfl; exact rfl; exact FzL.of rfl; exact hV _) | (apply q_callU; exact rfl; exact rfl; exact rfl; exact FzL.of rfl; exact hI _) | (apply q_callU; exact rfl; exact rfl; exact rfl; exact FzL.of rfl; exact hW _)); (try simp only [put, rowsOf, plR, List.all_cons, selE, ovr, setH, del, cellsA, splice, isV, List.nil_append, List.cons_append, List.map_cons, List.map_nil, List.length_cons, List.length_nil, List.set_cons_zero, List.set_cons_succ, List.take_succ_cons, List.take_zero, List.take_nil, List.drop_succ_cons, List.drop_zero, List.drop_nil, List.append_nil, List.all_cons, List.all_nil, Bool.and_true, Bool.true_and, Bool.and_false, Bool.false_and, Nat.reduceAdd, Nat.zero_add, Nat.add_zero, Nat.reduceEqDiff, if_true, if_false, reduceIte]))
    | (show AW _ _ _ _ _ _ _ _; first | refine aw_region ?_ | (refine aw_seqk ?_; intro K hK) | refine aw_ret ?_)
    | refine thn_n ?_
    | (refine hK _ _ _ ?_; clear hK K))); all_goals (repeat (clear hK K)))
  all_goals exact fin_r (fin_b rfl rfl)
end Go.Proofs.Yteknfaldpajlpaa.Nb

namespace Go.Proofs.Yteknfaldpajlpaa.Nb
open Go Go.RowKit Go.Proofs.Yteknfaldpajlpaa.Aw Go.Proofs.Yteknfaldpajlpaa.In Go.Proofs.Yteknfaldpajlpaa.Il
set_option linter.unusedSimpArgs false
set_option linter.unusedVariables false
set_option linter.unusedSectionVars false
attribute [local irreducible] AW SQ Step RO RC DE Thn InB
def foMax (xs : List Int) : Nat → Int
  | 0 => xs.getD 0 0
  | i + 1 => mxI (foMax xs i) (xs.getD (i + 1) 0)
set_option maxHeartbeats 4000000 in
theorem slMax_ro (xs : List Int) (h : 1 ≤ xs.length) (hn : xs.length ≤ 1048576) (k : Nat) : RO Try.prog 113 [.dsl 1 (xs.map inL)] k (.v (.int .i64 (foMax xs (xs.length - 1)))) [] k := by
  have hml : (xs.map inL).length = xs.length := List.length_map _
  have b0 : decide (((xs.map inL).length : Int) < 1) = false := by rw [hml, decide_eq_false_iff_not]; omega
  have hr0 : (xs.map inL)[((0 : Int)).toNat]? = some (inL (xs.getD 0 0)) := by simp [show 0 < xs.length by omega, List.getD]
  rw [inL_eq] at hr0
  refine RO.ofv' Try.func113 Try.ntmps113 rfl (goFn_of Try.func113 rfl (by kernel_rfl)) rfl rfl ?_
  ((repeat' (first
    | (show SQ _ _ _ _ _ _ _ _; first | apply sq_nil | (apply q_move; exact rfl; exact rfl) | (apply q_assign; exact rfl; exact rfl) | (apply q_lend; exact rfl; exact rfl; exact (ty rfl); exact rfl) | (apply q_lss; exact rfl; exact rfl; exact rfl) | (apply q_ixd; exact rfl; exact rfl; exact rfl; exact (ty rfl); exact rfl; exact (by first | omega | (simp; done) | (simp; omega)); exact (by first | omega | (simp; done) | (simp; omega)); exact (by first | rfl | assumption)) | (apply q_ld1d; exact rfl; exact rfl; exact (ty rfl); exact rfl; exact rfl))
    | (show AW _ _ _ _ _ _ _ _; first | refine aw_region ?_ | (refine aw_seqk ?_; intro K hK) | refine aw_block ?_ | (apply aw_cond_f; exact rfl; exact (by assumption)) | refine aw_skip ?_)
    | refine thn_n ?_
    | (refine hK _ _ _ ?_; clear hK K))); all_goals (repeat (clear hK K)))
  refine aw_loop (ρ := id) (ι := Nat) (fun i => ([(4, .v (.int .i64 ((i + 1 : Nat) : Int))), (3, .v (.int .i64 (foMax xs i))), (0, .dsl 1 (xs.map inL))], [], 0))
    (fun i => i < xs.length) (fun i => xs.length - i) 0 (by omega) ⟨by (repeat (refine ⟨by first | exact lk_i rfl rfl | exact lk_d rfl rfl, ?_⟩)); exact trivial, by exact trivial, by rfl, by exact pin_0⟩ ?_
  intro i hi
  by_cases c1 : i + 1 < xs.length
  · have b1 : decide (((i + 1 : Nat) : Int) < ((xs.map inL).length : Int)) = true := by rw [hml, decide_eq_true_eq]; omega
    have hr1 : (xs.map inL)[(((i + 1 : Nat) : Int)).toNat]? = some (inL (xs.getD (i + 1) 0)) := by simp [c1, List.getD]
    rw [inL_eq] at hr1
    have hi2 : i + 1 < (xs.map inL).length := by rw [hml]; omega
    have hw : IntKind.i64.wrap (((i + 1 : Nat) : Int) + 1) = ((i + 1 + 1 : Nat) : Int) := by rw [IntWalk.i64_in _ (by omega)]; omega
    ((repeat' (first
    | (show SQ _ _ _ _ _ _ _ _; first | apply sq_nil | (apply q_move; exact rfl; exact rfl) | (apply q_assign; exact rfl; exact rfl) | (apply q_lend; exact rfl; exact rfl; exact (ty rfl); exact rfl) | (apply q_max; exact rfl; exact rfl; exact rfl) | (apply q_add; exact rfl; exact rfl; exact rfl) | (apply q_lss; exact rfl; exact rfl; exact rfl) | (apply q_ixd; exact rfl; exact rfl; exact rfl; exact (ty rfl); exact rfl; exact (by first | omega | (simp; done) | (simp; omega)); exact (by first | omega | (simp; done) | (simp; omega)); exact (by first | rfl | assumption)) | (apply q_ld1d; exact rfl; exact rfl; exact (ty rfl); exact rfl; exact rfl))
    | (show AW _ _ _ _ _ _ _ _; first | refine aw_region ?_ | (refine aw_seqk ?_; intro K hK) | refine aw_block ?_ | (apply aw_cond_t; exact rfl; exact (by assumption)) | refine aw_skip ?_)
    | refine thn_n ?_
    | (refine hK _ _ _ ?_; clear hK K)
    | refine inb_n ?_)); all_goals (repeat (clear hK K)))
    all_goals (refine ⟨i + 1, id, c1, by omega, ?_⟩; (try dsimp only); rw [← hw]; exact ⟨by (repeat (refine ⟨by first | exact lk_i rfl rfl | exact lk_d rfl rfl, ?_⟩)); exact trivial, by exact trivial, by rfl, by exact pin_0⟩)
  · have b1 : decide (((i + 1 : Nat) : Int) < ((xs.map inL).length : Int)) = false := by rw [hml, decide_eq_false_iff_not]; omega
    have e : xs.length - 1 = i := by omega
    ((repeat' (first
    | (show SQ _ _ _ _ _ _ _ _; first | apply sq_nil | (apply q_move; exact rfl; exact rfl) | (apply q_assign; exact rfl; exact rfl) | (apply q_lend; exact rfl; exact rfl; exact (ty rfl); exact rfl) | (apply q_lss; exact rfl; exact rfl; exact rfl))
    | (show AW _ _ _ _ _ _ _ _; first | refine aw_region ?_ | (refine aw_seqk ?_; intro K hK) | (apply aw_cond_f; exact rfl; exact (by assumption)) | refine aw_ret ?_ | refine aw_exit ?_)
    | refine thn_n ?_
    | (refine hK _ _ _ ?_; clear hK K)
    | refine thn_e ?_
    | refine inb_same ?_
    | (clear hK K; refine hK _ _ _ ?_; clear hK K))); all_goals (repeat (clear hK K)))
    all_goals exact fin_r (fin_i rfl (by rw [e]))
def foMin (xs : List Int) : Nat → Int
  | 0 => xs.getD 0 0
  | i + 1 => mnI (foMin xs i) (xs.getD (i + 1) 0)
set_option maxHeartbeats 4000000 in
theorem slMin_ro (xs : List Int) (h : 1 ≤ xs.length) (hn : xs.length ≤ 1048576) (k : Nat) : RO Try.prog 114 [.dsl 1 (xs.map inL)] k (.v (.int .i64 (foMin xs (xs.length - 1)))) [] k := by
  have hml : (xs.map inL).length = xs.length := List.length_map _
  have b0 : decide (((xs.map inL).length : Int) < 1) = false := by rw [hml, decide_eq_false_iff_not]; omega
  have hr0 : (xs.map inL)[((0 : Int)).toNat]? = some (inL (xs.getD 0 0)) := by simp [show 0 < xs.length by omega, List.getD]
  rw [inL_eq] at hr0
  refine RO.ofv' Try.func114 Try.ntmps114 rfl (goFn_of Try.func114 rfl (by kernel_rfl)) rfl rfl ?_
  ((repeat' (first
    | (show SQ _ _ _ _ _ _ _ _; first | apply sq_nil | (apply q_move; exact rfl; exact rfl) | (apply q_assign; exact rfl; exact rfl) | (apply q_lend; exact rfl; exact rfl; exact (ty rfl); exact rfl) | (apply q_lss; exact rfl; exact rfl; exact rfl) | (apply q_ixd; exact rfl; exact rfl; exact rfl; exact (ty rfl); exact rfl; exact (by first | omega | (simp; done) | (simp; omega)); exact (by first | omega | (simp; done) | (simp; omega)); exact (by first | rfl | assumption)) | (apply q_ld1d; exact rfl; exact rfl; exact (ty rfl); exact rfl; exact rfl))
    | (show AW _ _ _ _ _ _ _ _; first | refine aw_region ?_ | (refine aw_seqk ?_; intro K hK) | refine aw_block ?_ | (apply aw_cond_f; exact rfl; exact (by assumption)) | refine aw_skip ?_)
    | refine thn_n ?_
    | (refine hK _ _ _ ?_; clear hK K))); all_goals (repeat (clear hK K)))
  refine aw_loop (ρ := id) (ι := Nat) (fun i => ([(4, .v (.int .i64 ((i + 1 : Nat) : Int))), (3, .v (.int .i64 (foMin xs i))), (0, .dsl 1 (xs.map inL))], [], 0))
    (fun i => i < xs.length) (fun i => xs.length - i) 0 (by omega) ⟨by (repeat (refine ⟨by first | exact lk_i rfl rfl | exact lk_d rfl rfl, ?_⟩)); exact trivial, by exact trivial, by rfl, by exact pin_0⟩ ?_
  intro i hi
  by_cases c1 : i + 1 < xs.length
  · have b1 : decide (((i + 1 : Nat) : Int) < ((xs.map inL).length : Int)) = true := by rw [hml, decide_eq_true_eq]; omega
    have hr1 : (xs.map inL)[(((i + 1 : Nat) : Int)).toNat]? = some (inL (xs.getD (i + 1) 0)) := by simp [c1, List.getD]
    rw [inL_eq] at hr1
    have hi2 : i + 1 < (xs.map inL).length := by rw [hml]; omega
    have hw : IntKind.i64.wrap (((i + 1 : Nat) : Int) + 1) = ((i + 1 + 1 : Nat) : Int) := by rw [IntWalk.i64_in _ (by omega)]; omega
    ((repeat' (first
    | (show SQ _ _ _ _ _ _ _ _; first | apply sq_nil | (apply q_move; exact rfl; exact rfl) | (apply q_assign; exact rfl; exact rfl) | (apply q_lend; exact rfl; exact rfl; exact (ty rfl); exact rfl) | (apply q_min; exact rfl; exact rfl; exact rfl) | (apply q_add; exact rfl; exact rfl; exact rfl) | (apply q_lss; exact rfl; exact rfl; exact rfl) | (apply q_ixd; exact rfl; exact rfl; exact rfl; exact (ty rfl); exact rfl; exact (by first | omega | (simp; done) | (simp; omega)); exact (by first | omega | (simp; done) | (simp; omega)); exact (by first | rfl | assumption)) | (apply q_ld1d; exact rfl; exact rfl; exact (ty rfl); exact rfl; exact rfl))
    | (show AW _ _ _ _ _ _ _ _; first | refine aw_region ?_ | (refine aw_seqk ?_; intro K hK) | refine aw_block ?_ | (apply aw_cond_t; exact rfl; exact (by assumption)) | refine aw_skip ?_)
    | refine thn_n ?_
    | (refine hK _ _ _ ?_; clear hK K)
    | refine inb_n ?_)); all_goals (repeat (clear hK K)))
    all_goals (refine ⟨i + 1, id, c1, by omega, ?_⟩; (try dsimp only); rw [← hw]; exact ⟨by (repeat (refine ⟨by first | exact lk_i rfl rfl | exact lk_d rfl rfl, ?_⟩)); exact trivial, by exact trivial, by rfl, by exact pin_0⟩)
  · have b1 : decide (((i + 1 : Nat) : Int) < ((xs.map inL).length : Int)) = false := by rw [hml, decide_eq_false_iff_not]; omega
    have e : xs.length - 1 = i := by omega
    ((repeat' (first
    | (show SQ _ _ _ _ _ _ _ _; first | apply sq_nil | (apply q_move; exact rfl; exact rfl) | (apply q_assign; exact rfl; exact rfl) | (apply q_lend; exact rfl; exact rfl; exact (ty rfl); exact rfl) | (apply q_lss; exact rfl; exact rfl; exact rfl))
    | (show AW _ _ _ _ _ _ _ _; first | refine aw_region ?_ | (refine aw_seqk ?_; intro K hK) | (apply aw_cond_f; exact rfl; exact (by assumption)) | refine aw_ret ?_ | refine aw_exit ?_)
    | refine thn_n ?_
    | (refine hK _ _ _ ?_; clear hK K)
    | refine thn_e ?_
    | refine inb_same ?_
    | (clear hK K; refine hK _ _ _ ?_; clear hK K))); all_goals (repeat (clear hK K)))
    all_goals exact fin_r (fin_i rfl (by rw [e]))
def spV (xs : List Int) : Int := if xs.length = 0 then 0 else if (!xs.any fun x => !inB x 0 999) = true then IntKind.i64.wrap (foMax xs (xs.length - 1) - foMin xs (xs.length - 1)) else 0
set_option maxHeartbeats 4000000 in
theorem SpanOf_ro (xs : List Int) (hn : xs.length ≤ 1048576) (k : Nat) : RO Try.prog 108 [.dsl 1 (xs.map inL)] k (.v (.int .i64 (spV xs))) [] k := by
  have hml : (xs.map inL).length = xs.length := List.length_map _
  unfold spV
  by_cases c0 : xs.length = 0
  · rw [if_pos c0]
    have b0 : (((xs.map inL).length : Int) == 0) = true := by rw [hml, c0]; rfl
    refine RO.ofv' Try.func108 Try.ntmps108 rfl (goFn_of Try.func108 rfl (by kernel_rfl)) rfl rfl ?_
    ((repeat' (first
    | (show SQ _ _ _ _ _ _ _ _; first | apply sq_nil | (apply q_move; exact rfl; exact rfl) | (apply q_assign; exact rfl; exact rfl) | (apply q_pick_t; exact rfl; exact rfl; exact rfl; exact (by first | assumption | exact rfl)) | (apply q_lend; exact rfl; exact rfl; exact (ty rfl); exact rfl) | (apply q_eql; exact rfl; exact rfl; exact rfl) | (apply q_s; exact rfl; exact rfl; exact rfl; exact (by assumption); exact rfl))
    | (show AW _ _ _ _ _ _ _ _; first | refine aw_region ?_ | (refine aw_seqk ?_; intro K hK) | (apply aw_cond_t; exact rfl; exact rfl) | refine aw_ret ?_)
    | refine thn_n ?_
    | (refine hK _ _ _ ?_; clear hK K)
    | refine thn_r ?_)); all_goals (repeat (clear hK K)))
    all_goals exact fin_r (fin_i rfl rfl)
  rw [if_neg c0]
  have b0 : (((xs.map inL).length : Int) == 0) = false := by rw [hml, beq_eq_false_iff_ne]; omega
  have hW := allWithin_ro xs (xs.map inL) 0 999 rfl hn
  cases c1 : (!xs.any fun x => !inB x 0 999) with
  | false =>
    rw [c1] at hW
    refine RO.ofv' Try.func108 Try.ntmps108 rfl (goFn_of Try.func108 rfl (by kernel_rfl)) rfl rfl ?_
    ((repeat' (first
    | (show SQ _ _ _ _ _ _ _ _; first | apply sq_nil | (apply q_move; exact rfl; exact rfl) | (apply q_assign; exact rfl; exact rfl) | (apply q_pick_f; exact rfl; exact rfl; exact rfl; exact (by first | assumption | exact rfl)) | (apply q_not; exact rfl; exact rfl) | (apply q_lend; exact rfl; exact rfl; exact (ty rfl); exact rfl) | (apply q_eql; exact rfl; exact rfl; exact rfl) | (apply q_g; exact rfl; exact rfl; exact rfl; exact (by assumption)))
    | (show SQ _ _ _ _ _ _ _ _; (first | (apply q_callU; exact rfl; exact rfl; exact rfl; exact FzL.of rfl; exact hW _)); (try simp only [put, rowsOf, plR, List.all_cons, selE, ovr, setH, del, cellsA, splice, isV, List.nil_append, List.cons_append, List.map_cons, List.map_nil, List.length_cons, List.length_nil, List.set_cons_zero, List.set_cons_succ, List.take_succ_cons, List.take_zero, List.take_nil, List.drop_succ_cons, List.drop_zero, List.drop_nil, List.append_nil, List.all_cons, List.all_nil, Bool.and_true, Bool.true_and, Bool.and_false, Bool.false_and, Nat.reduceAdd, Nat.zero_add, Nat.add_zero, Nat.reduceEqDiff, if_true, if_false, reduceIte]))
    | (show AW _ _ _ _ _ _ _ _; first | refine aw_region ?_ | (refine aw_seqk ?_; intro K hK) | (apply aw_cond_t; exact rfl; exact rfl) | refine aw_ret ?_)
    | refine thn_n ?_
    | (refine hK _ _ _ ?_; clear hK K)
    | refine thn_r ?_)); all_goals (repeat (clear hK K)))
    all_goals exact fin_r (fin_i rfl rfl)
  | true =>
    rw [c1] at hW
    have h1 := slMax_ro xs (by omega) hn
    have h2 := slMin_ro xs (by omega) hn
    refine RO.ofv' Try.func108 Try.ntmps108 rfl (goFn_of Try.func108 rfl (by kernel_rfl)) rfl rfl ?_
    ((repeat' (first
    | (show SQ _ _ _ _ _ _ _ _; first | apply sq_nil | (apply q_move; exact rfl; exact rfl) | (apply q_assign; exact rfl; exact rfl) | (apply q_pick_f; exact rfl; exact rfl; exact rfl; exact (by first | assumption | exact rfl)) | (apply q_not; exact rfl; exact rfl) | (apply q_lend; exact rfl; exact rfl; exact (ty rfl); exact rfl) | (apply q_sub; exact rfl; exact rfl; exact rfl) | (apply q_eql; exact rfl; exact rfl; exact rfl) | (apply q_g; exact rfl; exact rfl; exact rfl; exact (by assumption)))
    | (show SQ _ _ _ _ _ _ _ _; (first | (apply q_callU; exact rfl; exact rfl; exact rfl; exact FzL.of rfl; exact hW _) | (apply q_callU; exact rfl; exact rfl; exact rfl; exact FzL.of rfl; exact h1 _) | (apply q_callU; exact rfl; exact rfl; exact rfl; exact FzL.of rfl; exact h2 _)); (try simp only [put, rowsOf, plR, List.all_cons, selE, ovr, setH, del, cellsA, splice, isV, List.nil_append, List.cons_append, List.map_cons, List.map_nil, List.length_cons, List.length_nil, List.set_cons_zero, List.set_cons_succ, List.take_succ_cons, List.take_zero, List.take_nil, List.drop_succ_cons, List.drop_zero, List.drop_nil, List.append_nil, List.all_cons, List.all_nil, Bool.and_true, Bool.true_and, Bool.and_false, Bool.false_and, Nat.reduceAdd, Nat.zero_add, Nat.add_zero, Nat.reduceEqDiff, if_true, if_false, reduceIte]))
    | (show AW _ _ _ _ _ _ _ _; first | refine aw_region ?_ | (refine aw_seqk ?_; intro K hK) | (apply aw_cond_f; exact rfl; exact rfl) | refine aw_ret ?_ | refine aw_skip ?_)
    | refine thn_n ?_
    | (refine hK _ _ _ ?_; clear hK K))); all_goals (repeat (clear hK K)))
    all_goals exact fin_r (fin_i rfl rfl)
def chL (ap : List (List Int)) (made dom : List Int) : List Int := dom.filter fun c => fitB ap made c
set_option maxHeartbeats 4000000 in
theorem choices_ro (ds ap : List (List Int)) (made : List Int) (hS : NbS ds) (hA : NbS ap) (hP : PrF ds ap) (hi : made.length < ds.length) (hv : ∀ x ∈ made, 0 ≤ x ∧ x ≤ 999) (k : Nat) :
    RO Try.prog 107 [.agg [.dsl 1 (nbL ds), .dsl 1 (nbL ap)], .dsl 1 (made.map inL), .v (.int .i64 (made.length : Nat))] k (.sl k 0 (chL ap made (ds.getD made.length [])).length) [(k, ⟨2, 1, true, (chL ap made (ds.getD made.length [])).map inL⟩)] (k + 1) := by
  have hnl := nbL_len ds
  have hal := nbL_len ap
  have hml : (made.map inL).length = made.length := List.length_map _
  have hn := hP.n
  have hia : made.length < ap.length := by rw [hP.a]; exact hi
  have hrd := nbL_get hi
  have hra := nbL_get hia
  have hg : ds.getD made.length [] = ds[made.length] := by simp [List.getD, hi]
  have hg2 : ap.getD made.length [] = ap[made.length] := by simp [List.getD, hia]
  obtain ⟨hd32, hdv⟩ := hP.dom _ (List.getElem_mem hi)
  have hro := hP.rows _ hia
  rw [hg2] at hro
  rw [hg]
  have hcl : ∀ c i, cfl ap made made.length c i = (decide (i ≠ made.length) && decide (max (c - made.getD i 0) (-(c - made.getD i 0)) < ap[made.length].getD i 0)) := fun c i => by rw [cfl, hg2]
  generalize ap[made.length] = row at *
  generalize ds[made.length] = dom at *
  have hdm : (dom.map inL).length = dom.length := List.length_map _
  have hrm : (row.map inL).length = row.length := List.length_map _
  have hfl : ∀ i, (chL ap made (dom.take i)).length ≤ dom.length := fun i => by
    have h1 := List.length_filter_le (fun c => fitB ap made c) (dom.take i)
    rw [List.length_take] at h1
    unfold chL; omega
  refine RO.ofm (.sl 0 0 (chL ap made dom).length) ([(0, ⟨2, 1, true, (chL ap made dom).map inL⟩)]) 1 Try.func107 Try.ntmps107 rfl (goFn_of Try.func107 rfl (by kernel_rfl)) rfl rfl (by simp [renA, renL]) (by simp [shH, renB]) rfl ?_
  ((repeat' (first
    | (show SQ _ _ _ _ _ _ _ _; apply sq_frzp (t := 3); exact rfl; exact rfl; exact (by first | rfl | exact all_noOwn_map (fun _ => rfl) | assumption | exact hclo); exact (by first | rfl | assumption); exact rfl; (try simp only [put, rowsOf, plR, List.all_cons, selE, ovr, setH, del, cellsA, splice, isV, List.nil_append, List.cons_append, List.map_cons, List.map_nil, List.length_cons, List.length_nil, List.set_cons_zero, List.set_cons_succ, List.take_succ_cons, List.take_zero, List.take_nil, List.drop_succ_cons, List.drop_zero, List.drop_nil, List.append_nil, List.all_cons, List.all_nil, Bool.and_true, Bool.true_and, Bool.and_false, Bool.false_and, Nat.reduceAdd, Nat.zero_add, Nat.add_zero, Nat.reduceEqDiff, if_true, if_false, reduceIte]))
    | (show SQ _ _ _ _ _ _ _ _; first | apply sq_nil | (apply q_move; exact rfl; exact rfl) | (apply q_assign; exact rfl; exact rfl) | (apply q_fieldAddr; exact rfl; exact rfl; exact (ty rfl); exact rfl; exact rfl; exact rfl; exact rfl) | (apply q_lend; exact rfl; exact rfl; exact (ty rfl); exact rfl) | (apply q_ixd; exact rfl; exact rfl; exact rfl; exact (ty rfl); exact rfl; exact (by first | omega | (simp; done) | (simp; omega)); exact (by first | omega | (simp; done) | (simp; omega)); exact (by first | rfl | assumption)) | (apply q_ld1d; exact rfl; exact rfl; exact (ty rfl); exact rfl; exact rfl))
    | (show SQ _ _ _ _ _ _ _ _; (first | (apply q_box; exact rfl; exact rfl; exact rfl)); (try simp only [put, rowsOf, plR, List.all_cons, selE, ovr, setH, del, cellsA, splice, isV, List.nil_append, List.cons_append, List.map_cons, List.map_nil, List.length_cons, List.length_nil, List.set_cons_zero, List.set_cons_succ, List.take_succ_cons, List.take_zero, List.take_nil, List.drop_succ_cons, List.drop_zero, List.drop_nil, List.append_nil, List.all_cons, List.all_nil, Bool.and_true, Bool.true_and, Bool.and_false, Bool.false_and, Nat.reduceAdd, Nat.zero_add, Nat.add_zero, Nat.reduceEqDiff, if_true, if_false, reduceIte]))
    | (show AW _ _ _ _ _ _ _ _; first | refine aw_region ?_ | (refine aw_seqk ?_; intro K hK) | refine aw_block ?_)
    | refine thn_n ?_
    | (refine hK _ _ _ ?_; clear hK K))); all_goals (repeat (clear hK K)))
  refine aw_nil (t := 7) 2 1 rfl ?_
  refine aw_loop (ρ := id) (ι := Nat) (fun i => ([(19, .v (.int .i64 i)), (18, .v (.int .i64 (dom.length : Nat))), (17, .dsl 1 (dom.map inL)), (7, .sl 1 0 (chL ap made (dom.take i)).length), (3, .dptr [.dsl 1 (nbL ds), .dsl 1 (nbL ap)]), (2, .v (.int .i64 (made.length : Nat))), (1, .dsl 1 (made.map inL))],
      [(1, ⟨2, 1, true, (chL ap made (dom.take i)).map inL⟩)], 2))
    (fun i => i ≤ dom.length) (fun i => dom.length - i) 0 (Nat.zero_le _) ⟨by (repeat (refine ⟨by first | exact lk_i rfl rfl | exact lk_i rfl (by (try dsimp only); first | rfl | omega | (rw [IntWalk.i64_in _ (by omega)]; first | rfl | omega | (push_cast; omega)) | (simp; done) | (simp; omega)) | exact lk_d rfl rfl | exact lk_s rfl rfl rfl rfl | exact lk_p rfl rfl, ?_⟩)); exact trivial, by (repeat (refine ⟨by first | exact ⟨rfl, rfl, rfl⟩, ?_⟩)); exact trivial, by rfl, by exact pin_0⟩ ?_
  intro i hi2
  have hfi := hfl i
  have hcm : ((chL ap made (dom.take i)).map inL).length = (chL ap made (dom.take i)).length := List.length_map _
  by_cases c1 : i < dom.length
  · have b1 : decide ((i : Int) < (dom.length : Int)) = true := by simpa using c1
    have hr1 : (dom.map inL)[((i : Int)).toNat]? = some (inL dom[i]) := by simp [c1]
    rw [inL_eq] at hr1
    have hdvi := hdv _ (List.getElem_mem c1)
    have hw : IntKind.i64.wrap ((i : Int) + 1) = ((i + 1 : Nat) : Int) := by rw [IntWalk.i64_in _ (by omega)]; omega
    have hst : chL ap made (dom.take (i + 1)) = chL ap made (dom.take i) ++ if fitB ap made dom[i] = true then [dom[i]] else [] := by
      unfold chL
      rw [List.take_succ_eq_append_getElem c1, List.filter_append]
      congr 1
      by_cases e : fitB ap made dom[i] = true
      · rw [if_pos e]; simp [e]
      · rw [if_neg e]; simp [e]
    have hcl := hcl dom[i]
    have hfb : fitB ap made dom[i] = (cfN ap made made.length dom[i] made.length == 0) := rfl
    generalize dom[i] = c at *
    ((repeat' (first
    | (show SQ _ _ _ _ _ _ _ _; first | apply sq_nil | (apply q_move; exact rfl; exact rfl) | (apply q_assign; exact rfl; exact rfl) | (apply q_lend; exact rfl; exact rfl; exact (ty rfl); exact rfl) | (apply q_lss; exact rfl; exact rfl; exact rfl) | (apply q_ixd; exact rfl; exact rfl; exact rfl; exact (ty rfl); exact rfl; exact (by first | omega | (simp; done) | (simp; omega)); exact (by first | omega | (simp; done) | (simp; omega)); exact (by first | rfl | assumption)) | (apply q_ld1d; exact rfl; exact rfl; exact (ty rfl); exact rfl; exact rfl))
    | (show AW _ _ _ _ _ _ _ _; first | refine aw_region ?_ | (refine aw_seqk ?_; intro K hK) | refine aw_block ?_ | (apply aw_cond_t; exact rfl; exact (by assumption)) | refine aw_skip ?_)
    | refine thn_n ?_
    | (refine hK _ _ _ ?_; clear hK K))); all_goals (repeat (clear hK K)))
    refine aw_loop (ρ := id) (ι := Nat) (fun j => ([(25, .v (.int .i64 j)), (24, .v (.int .i64 (made.length : Nat))), (23, .dsl 1 (made.map inL)), (19, .v (.int .i64 i)), (18, .v (.int .i64 (dom.length : Nat))), (17, .dsl 1 (dom.map inL)), (10, .v (.bool (!(cfN ap made made.length c j == 0)))), (9, .v (.int .i64 c)), (7, .sl 1 0 (chL ap made (dom.take i)).length), (3, .dptr [.dsl 1 (nbL ds), .dsl 1 (nbL ap)]), (2, .v (.int .i64 (made.length : Nat))), (1, .dsl 1 (made.map inL))],
        [(1, ⟨2, 1, true, (chL ap made (dom.take i)).map inL⟩)], 2))
      (fun j => j ≤ made.length) (fun j => made.length - j) 0 (Nat.zero_le _) ⟨by (repeat (refine ⟨by first | exact lk_i rfl rfl | exact lk_i rfl (by (try dsimp only); first | rfl | omega | (rw [IntWalk.i64_in _ (by omega)]; first | rfl | omega | (push_cast; omega)) | (simp; done) | (simp; omega)) | exact lk_d rfl rfl | exact lk_v rfl rfl | exact lk_s rfl rfl rfl rfl | exact lk_p rfl rfl, ?_⟩)); exact trivial, by (repeat (refine ⟨by first | exact ⟨rfl, rfl, rfl⟩, ?_⟩)); exact trivial, by rfl, by exact pin_0⟩ ?_
    intro j hj
    have hsu := cfN_succ ap made made.length c j
    by_cases c2 : j < made.length
    · have b2 : decide ((j : Int) < (made.length : Int)) = true := by simpa using c2
      have hr2 : (made.map inL)[((j : Int)).toNat]? = some (inL (made.getD j 0)) := by simp [c2, List.getD]
      rw [inL_eq] at hr2
      have hvj : 0 ≤ made.getD j 0 ∧ made.getD j 0 ≤ 999 := by have := hv _ (List.getElem_mem c2); simpa [List.getD, c2] using this
      have hjr : j < row.length := by omega
      have hr3 : (row.map inL)[((j : Int)).toNat]? = some (inL (row.getD j 0)) := by simp [hjr, List.getD]
      rw [inL_eq] at hr3
      have hw2 : IntKind.i64.wrap ((j : Int) + 1) = ((j + 1 : Nat) : Int) := by rw [IntWalk.i64_in _ (by omega)]; omega
      have b3 : ((j : Int) != ((made.length : Nat) : Int)) = true := by simp; omega
      rw [hcl j] at hsu
      have b5 : decide (j ≠ made.length) = true := by rw [decide_eq_true_eq]; omega
      rw [b5, Bool.true_and] at hsu
      generalize made.getD j 0 = y at *
      generalize row.getD j 0 = a at *
      have b4 : decide (y ≥ 0) = true := by rw [decide_eq_true_eq]; omega
      have hwd : IntKind.i64.wrap (c - y) = c - y := IntWalk.i64_in _ (by omega)
      have hAb := abs_ro (IntKind.i64.wrap (c - y)) (by rw [hwd]; omega) (by rw [hwd]; omega)
      rw [show max (IntKind.i64.wrap (c - y)) (-IntKind.i64.wrap (c - y)) = max (c - y) (-(c - y)) by rw [hwd]] at hAb
      cases b6 : decide (max (c - y) (-(c - y)) < a) with
      | true =>
        rw [b6, if_pos rfl] at hsu
        have e : (!(cfN ap made made.length c (j + 1) == 0)) = true := by rw [hsu]; simp
        ((repeat' (first
    | (show SQ _ _ _ _ _ _ _ _; first | apply sq_nil | (apply q_move; exact rfl; exact rfl) | (apply q_assign; exact rfl; exact rfl) | (apply q_add; exact rfl; exact rfl; exact rfl) | (apply q_lss; exact rfl; exact rfl; exact rfl) | (apply q_ixd; exact rfl; exact rfl; exact rfl; exact (ty rfl); exact rfl; exact (by first | omega | (simp; done) | (simp; omega)); exact (by first | omega | (simp; done) | (simp; omega)); exact (by first | rfl | assumption)) | (apply q_ld1d; exact rfl; exact rfl; exact (ty rfl); exact rfl; exact rfl))
    | (show DE _ _ _ _ _ _ _ _ _ _ _ _; first | (apply e_move; exact rfl; exact rfl; exact rfl) | (apply e_pick_t; exact rfl; exact rfl; exact rfl; exact (by first | assumption | exact rfl); exact rfl) | (apply e_fieldAddr; exact rfl; exact rfl; exact (ty rfl); exact rfl; exact rfl; exact rfl; exact rfl; exact rfl) | (apply e_sub; exact rfl; exact rfl; exact rfl; exact rfl) | (apply e_neq; exact rfl; exact rfl; exact rfl; exact rfl) | (apply e_lss; exact rfl; exact rfl; exact rfl; exact rfl) | (apply e_geq; exact rfl; exact rfl; exact rfl; exact rfl) | (apply e_ixd; exact rfl; exact rfl; exact rfl; exact (ty rfl); exact rfl; exact (by first | omega | (simp; done) | (simp; omega)); exact (by first | omega | (simp; done) | (simp; omega)); exact (by first | rfl | assumption); exact rfl) | (apply e_ld1d; exact rfl; exact rfl; exact (ty rfl); exact rfl; exact rfl; exact rfl) | (apply e_g; exact rfl; exact rfl; exact rfl; exact (by assumption)))
    | (show DE _ _ _ _ _ _ _ _ _ _ _ _; (first | (apply dr_nil; exact trivial) | (apply e_callU; exact rfl; exact rfl; exact rfl; exact FzL.of rfl; exact hAb _; exact rfl)); (try simp only [put, rowsOf, plR, List.all_cons, selE, ovr, setH, del, cellsA, splice, isV, List.nil_append, List.cons_append, List.map_cons, List.map_nil, List.length_cons, List.length_nil, List.set_cons_zero, List.set_cons_succ, List.take_succ_cons, List.take_zero, List.take_nil, List.drop_succ_cons, List.drop_zero, List.drop_nil, List.append_nil, List.all_cons, List.all_nil, Bool.and_true, Bool.true_and, Bool.and_false, Bool.false_and, Nat.reduceAdd, Nat.zero_add, Nat.add_zero, Nat.reduceEqDiff, if_true, if_false, reduceIte]))
    | (show AW _ _ _ _ _ _ _ _; first | refine aw_region ?_ | (refine aw_seqk ?_; intro K hK) | refine aw_block ?_ | (apply aw_cond_t; exact rfl; exact (by assumption)) | refine aw_skip ?_ | refine aw_drawE (id := 9) [0, 0, 3, 7, 15, 31, 63, 127, 255, 255, 1023, 2047, 255, 4351, 255, 28927, 61695, 255, 258303, 520447, 1048575, 2097151] [0, 0, 0, 0, 0, 0, 0, 0, 0, 0, 0, 1, 0, 1, 0, 0, 1, 0, 0, 1, 0, 0] mixed (by kernel_rfl) ?_)
    | refine thn_n ?_
    | (refine hK _ _ _ ?_; clear hK K)
    | refine inb_n ?_)); all_goals (repeat (clear hK K)))
        all_goals (refine ⟨j + 1, id, c2, by omega, ?_⟩; (try dsimp only); rw [e, ← hw2]; exact ⟨by (repeat (refine ⟨by first | exact lk_i rfl rfl | exact lk_d rfl rfl | exact lk_v rfl rfl | exact lk_s rfl rfl rfl rfl | exact lk_p rfl rfl, ?_⟩)); exact trivial, by (repeat (refine ⟨by first | exact ⟨rfl, rfl, rfl⟩, ?_⟩)); exact trivial, by rfl, by exact pin_0⟩)
      | false =>
        rw [b6, if_neg (by simp), Nat.add_zero] at hsu
        ((repeat' (first
    | (show SQ _ _ _ _ _ _ _ _; first | apply sq_nil | (apply q_move; exact rfl; exact rfl) | (apply q_assign; exact rfl; exact rfl) | (apply q_add; exact rfl; exact rfl; exact rfl) | (apply q_lss; exact rfl; exact rfl; exact rfl) | (apply q_ixd; exact rfl; exact rfl; exact rfl; exact (ty rfl); exact rfl; exact (by first | omega | (simp; done) | (simp; omega)); exact (by first | omega | (simp; done) | (simp; omega)); exact (by first | rfl | assumption)) | (apply q_ld1d; exact rfl; exact rfl; exact (ty rfl); exact rfl; exact rfl))
    | (show DE _ _ _ _ _ _ _ _ _ _ _ _; first | (apply e_move; exact rfl; exact rfl; exact rfl) | (apply e_pick_t; exact rfl; exact rfl; exact rfl; exact (by first | assumption | exact rfl); exact rfl) | (apply e_fieldAddr; exact rfl; exact rfl; exact (ty rfl); exact rfl; exact rfl; exact rfl; exact rfl; exact rfl) | (apply e_sub; exact rfl; exact rfl; exact rfl; exact rfl) | (apply e_neq; exact rfl; exact rfl; exact rfl; exact rfl) | (apply e_lss; exact rfl; exact rfl; exact rfl; exact rfl) | (apply e_geq; exact rfl; exact rfl; exact rfl; exact rfl) | (apply e_ixd; exact rfl; exact rfl; exact rfl; exact (ty rfl); exact rfl; exact (by first | omega | (simp; done) | (simp; omega)); exact (by first | omega | (simp; done) | (simp; omega)); exact (by first | rfl | assumption); exact rfl) | (apply e_ld1d; exact rfl; exact rfl; exact (ty rfl); exact rfl; exact rfl; exact rfl) | (apply e_g; exact rfl; exact rfl; exact rfl; exact (by assumption)))
    | (show DE _ _ _ _ _ _ _ _ _ _ _ _; (first | (apply dr_nil; exact trivial) | (apply e_callU; exact rfl; exact rfl; exact rfl; exact FzL.of rfl; exact hAb _; exact rfl)); (try simp only [put, rowsOf, plR, List.all_cons, selE, ovr, setH, del, cellsA, splice, isV, List.nil_append, List.cons_append, List.map_cons, List.map_nil, List.length_cons, List.length_nil, List.set_cons_zero, List.set_cons_succ, List.take_succ_cons, List.take_zero, List.take_nil, List.drop_succ_cons, List.drop_zero, List.drop_nil, List.append_nil, List.all_cons, List.all_nil, Bool.and_true, Bool.true_and, Bool.and_false, Bool.false_and, Nat.reduceAdd, Nat.zero_add, Nat.add_zero, Nat.reduceEqDiff, if_true, if_false, reduceIte]))
    | (show AW _ _ _ _ _ _ _ _; first | refine aw_region ?_ | (refine aw_seqk ?_; intro K hK) | refine aw_block ?_ | (apply aw_cond_t; exact rfl; exact (by assumption)) | (apply aw_cond_f; exact rfl; exact (by assumption)) | refine aw_skip ?_ | refine aw_drawE (id := 9) [0, 0, 3, 7, 15, 31, 63, 127, 255, 255, 1023, 2047, 255, 4351, 255, 28927, 61695, 255, 258303, 520447, 1048575, 2097151] [0, 0, 0, 0, 0, 0, 0, 0, 0, 0, 0, 1, 0, 1, 0, 0, 1, 0, 0, 1, 0, 0] mixed (by kernel_rfl) ?_)
    | refine thn_n ?_
    | (refine hK _ _ _ ?_; clear hK K)
    | refine inb_n ?_)); all_goals (repeat (clear hK K)))
        all_goals (refine ⟨j + 1, id, c2, by omega, ?_⟩; (try dsimp only); rw [hsu, ← hw2]; exact ⟨by (repeat (refine ⟨by first | exact lk_i rfl rfl | exact lk_d rfl rfl | exact lk_v rfl rfl | exact lk_s rfl rfl rfl rfl | exact lk_p rfl rfl, ?_⟩)); exact trivial, by (repeat (refine ⟨by first | exact ⟨rfl, rfl, rfl⟩, ?_⟩)); exact trivial, by rfl, by exact pin_0⟩)
    · have b2 : decide ((j : Int) < (made.length : Int)) = false := by simpa using c2
      obtain rfl : j = made.length := by omega
      rw [← hfb]
      cases c3 : fitB ap made c with
      | true =>
        rw [if_pos c3] at hst
        ((repeat' (first
    | (show SQ _ _ _ _ _ _ _ _; first | apply sq_nil | (apply q_move; exact rfl; exact rfl) | (apply q_assign; exact rfl; exact rfl) | (apply q_not; exact rfl; exact rfl) | (apply q_add; exact rfl; exact rfl; exact rfl) | (apply q_lss; exact rfl; exact rfl; exact rfl))
    | (show SQ _ _ _ _ _ _ _ _; (first | (apply q_buildn; exact rfl; exact (ty rfl); exact rfl; exact rfl; exact rfl; exact rfl; exact rfl; exact rfl; exact rfl) | (apply q_apo_s; exact rfl; exact rfl; exact rfl; exact (ty rfl); exact rfl; exact rfl; exact (by first | omega | (simp; done) | (simp; omega)); exact (by first | exact List.take_of_length_le (by first | omega | (simp; done) | (simp; omega)) | rfl); exact (ty rfl); exact rfl; exact rfl; exact (by first | omega | (simp; done) | (simp; omega)); exact (by first | exact dt_full (by first | omega | (simp; done) | (simp; omega)) | assumption | rfl); exact rfl; exact (by first | omega | (simp; done) | (simp; omega)); exact (by first | omega | (simp; done) | (simp; omega)); exact (by first | assumption | exact rfl))); (try simp only [put, rowsOf, plR, List.all_cons, selE, ovr, setH, del, cellsA, splice, isV, List.nil_append, List.cons_append, List.map_cons, List.map_nil, List.length_cons, List.length_nil, List.set_cons_zero, List.set_cons_succ, List.take_succ_cons, List.take_zero, List.take_nil, List.drop_succ_cons, List.drop_zero, List.drop_nil, List.append_nil, List.all_cons, List.all_nil, Bool.and_true, Bool.true_and, Bool.and_false, Bool.false_and, Nat.reduceAdd, Nat.zero_add, Nat.add_zero, Nat.reduceEqDiff, if_true, if_false, reduceIte]))
    | (show AW _ _ _ _ _ _ _ _; first | refine aw_region ?_ | (refine aw_seqk ?_; intro K hK) | (apply aw_cond_t; exact rfl; exact rfl) | (apply aw_cond_f; exact rfl; exact (by assumption)) | refine aw_exit ?_)
    | refine thn_n ?_
    | (refine hK _ _ _ ?_; clear hK K)
    | refine thn_e ?_
    | refine inb_same ?_
    | refine inb_n ?_
    | (clear hK K; refine hK _ _ _ ?_; clear hK K))); all_goals (repeat (clear hK K)))
        all_goals (refine ⟨i + 1, fun z => if z = 1 then 3 else z, c1, by omega, ?_⟩; (try dsimp only); rw [hst, List.map_append, List.length_append, ← hw]; exact ⟨by (repeat (refine ⟨by first | exact lk_i rfl rfl | exact lk_d rfl rfl | exact lk_s rfl rfl rfl rfl | exact lk_p rfl rfl, ?_⟩)); exact trivial, by (repeat (refine ⟨by first | exact ⟨rfl, rfl, rfl⟩, ?_⟩)); exact trivial, by rfl, by exact pin_0⟩)
      | false =>
        rw [if_neg (by rw [c3]; simp), List.append_nil] at hst
        ((repeat' (first
    | (show SQ _ _ _ _ _ _ _ _; first | apply sq_nil | (apply q_move; exact rfl; exact rfl) | (apply q_not; exact rfl; exact rfl) | (apply q_add; exact rfl; exact rfl; exact rfl) | (apply q_lss; exact rfl; exact rfl; exact rfl))
    | (show AW _ _ _ _ _ _ _ _; first | refine aw_region ?_ | (refine aw_seqk ?_; intro K hK) | (apply aw_cond_f; exact rfl; exact rfl) | (apply aw_cond_f; exact rfl; exact (by assumption)) | refine aw_exit ?_ | refine aw_skip ?_)
    | refine thn_n ?_
    | (refine hK _ _ _ ?_; clear hK K)
    | refine thn_e ?_
    | refine inb_same ?_
    | refine inb_n ?_
    | (clear hK K; refine hK _ _ _ ?_; clear hK K))); all_goals (repeat (clear hK K)))
        all_goals (refine ⟨i + 1, id, c1, by omega, ?_⟩; (try dsimp only); rw [hst, ← hw]; exact ⟨by (repeat (refine ⟨by first | exact lk_i rfl rfl | exact lk_d rfl rfl | exact lk_s rfl rfl rfl rfl | exact lk_p rfl rfl, ?_⟩)); exact trivial, by (repeat (refine ⟨by first | exact ⟨rfl, rfl, rfl⟩, ?_⟩)); exact trivial, by rfl, by exact pin_0⟩)
  · have b1 : decide ((i : Int) < (dom.length : Int)) = false := by simpa using c1
    obtain rfl : i = dom.length := by omega
    rw [List.take_length]
    ((repeat' (first
    | (show SQ _ _ _ _ _ _ _ _; first | apply sq_nil | (apply q_move; exact rfl; exact rfl) | (apply q_assign; exact rfl; exact rfl) | (apply q_lss; exact rfl; exact rfl; exact rfl))
    | (show AW _ _ _ _ _ _ _ _; first | refine aw_region ?_ | (refine aw_seqk ?_; intro K hK) | (apply aw_cond_f; exact rfl; exact (by assumption)) | refine aw_ret ?_ | refine aw_exit ?_)
    | refine thn_n ?_
    | (refine hK _ _ _ ?_; clear hK K)
    | refine thn_e ?_
    | refine inb_same ?_
    | (clear hK K; refine hK _ _ _ ?_; clear hK K))); all_goals (repeat (clear hK K)))
    all_goals exact fin_r (fin_m rfl rfl _ _ rfl rfl)
end Go.Proofs.Yteknfaldpajlpaa.Nb
