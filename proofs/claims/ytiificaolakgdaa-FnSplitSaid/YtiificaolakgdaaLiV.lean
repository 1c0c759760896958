/-
  Holdings: validity, the program's; the law.
-/
import Derived.Test.YtiificaolakgdaaLiH
namespace Go.Proofs.Ytiificaolakgdaa.Li
open Go Go.RowKit Go.Proofs.Ytiificaolakgdaa.Aw Go.Proofs.Ytiificaolakgdaa.Ar
set_option linter.unusedSimpArgs false
set_option linter.unusedVariables false
attribute [local irreducible] AW SQ Step RO RC DE Thn InB

theorem licL_eq (l : Lic) : licL l = [.v (.string l.id), .v (.string l.ho), .v (.int .i64 l.lo), .v (.int .i64 l.hi), .v (.int .i64 l.x), .v (.int .i64 l.y), .v (.int .i64 l.e), .v (.int .i64 l.n), .v (.int .i64 l.fr), .v (.int .i64 l.un), .v (.int .i64 l.po)] := rfl
theorem bl_irrefl : ∀ (l : List UInt8), Op.bytesLess l l = false
  | [] => rfl
  | a :: l => by simp [Op.bytesLess, bl_irrefl l]
theorem bl_tri : ∀ (l r : List UInt8), (!(Op.bytesLess l r || (l == r))) = Op.bytesLess r l
  | [], [] => rfl
  | [], _ :: _ => rfl
  | _ :: _, [] => rfl
  | a :: l, b :: r => by
    have ih := bl_tri l r
    by_cases h : a = b
    · subst h
      simpa [Op.bytesLess] using ih
    · have hba : ¬ b = a := fun e => h e.symm
      rcases Nat.lt_or_ge a.toNat b.toNat with h1 | h1
      · have e1 : a < b := UInt8.lt_iff_toNat_lt.2 h1
        have e2 : ¬ b < a := fun h2 => by have := UInt8.lt_iff_toNat_lt.1 h2; omega
        simp [Op.bytesLess, h, hba, e1, e2]
      · have h2 : b.toNat < a.toNat := by
          rcases Nat.lt_or_ge b.toNat a.toNat with h2 | h2
          · exact h2
          · exact absurd (UInt8.toNat_inj.1 (by omega)) h
        have e1 : b < a := UInt8.lt_iff_toNat_lt.2 h2
        have e2 : ¬ a < b := fun h2 => by have := UInt8.lt_iff_toNat_lt.1 h2; omega
        simp [Op.bytesLess, h, hba, e1, e2]
theorem ltS_le (a b : ByteArray) : (ltS a b || eqS a b) = !ltS b a := by
  have := bl_tri a.toList b.toList
  unfold ltS eqS
  rw [← this, Bool.not_not]
theorem good_lic {xs : List Lic} {j : Nat} (h : goodAt xs j = true) : licB (xs.getD j lz) = true := by
  unfold goodAt at h; simp only [Bool.and_eq_true] at h; exact h.1.1
theorem any_clash {xs : List Lic} {i : Nat} (h : ∀ j, j < i → goodAt xs j = true) (hi : i < xs.length) (hx : licB xs[i] = true) : (xs.take i).any (fun y => clashB xs[i] y) = (xs.take i).any (fun y => clB xs[i] y) := by
  rw [Bool.eq_iff_iff, List.any_eq_true, List.any_eq_true]
  have key : ∀ y ∈ xs.take i, clashB xs[i] y = clB xs[i] y := fun y hy => by
    obtain ⟨j, hj, e⟩ := List.mem_take_iff_getElem.1 hy
    have hg := good_lic (h j (by omega))
    rw [List.getD_eq_getElem?_getD, List.getElem?_eq_getElem (by omega), Option.getD_some] at hg
    rw [clash_eq, hx, ← e, hg]; rfl
  exact ⟨fun ⟨y, hy, hc⟩ => ⟨y, hy, by rw [← key y hy]; exact hc⟩, fun ⟨y, hy, hc⟩ => ⟨y, hy, by rw [key y hy]; exact hc⟩⟩
set_option maxHeartbeats 4000000 in
theorem ValidHoldings_ro (xs : List Lic) (hs : ∀ l ∈ xs, l.sm) (hn : xs.length ≤ 1048576) (k : Nat) : RO Try.prog 46 [.dsl 11 (xs.map licL)] k (.v (.bool (holdB xs))) [] k := by
  by_cases c1 : xs.length ≤ 24
  · have b1 : decide ((24 : Int) < ((xs.map licL).length : Int)) = false := by simp; omega
    refine RO.ofv' Try.func46 Try.ntmps46 rfl (goFn_of Try.func46 rfl (by kernel_rfl)) rfl rfl ?_
    ((repeat' (first
    | (show SQ _ _ _ _ _ _ _ _; first | apply sq_nil | (apply q_move; exact rfl; exact rfl) | (apply q_assign; exact rfl; exact rfl) | (apply q_lend; exact rfl; exact rfl; exact (ty rfl); exact rfl) | (apply q_gtr; exact rfl; exact rfl; exact rfl))
    | (show AW _ _ _ _ _ _ _ _; first | refine aw_region ?_ | (refine aw_seqk ?_; intro K hK) | refine aw_block ?_ | (apply aw_cond_f; exact rfl; exact (by assumption)) | refine aw_skip ?_)
    | refine thn_n ?_
    | (refine hK _ _ _ ?_; clear hK K))); all_goals (repeat (clear hK K)))
    refine aw_loop (ρ := id) (ι := Nat) (fun i => ([(10, .v (.int .i64 i)), (9, .v (.int .i64 xs.length)), (8, .dsl 11 (xs.map licL)), (0, .dsl 11 (xs.map licL))], [], 0))
      (fun i => i ≤ xs.length ∧ ∀ j, j < i → goodAt xs j = true) (fun i => xs.length - i) 0 ⟨Nat.zero_le _, fun _ h => absurd h (Nat.not_lt_zero _)⟩ ⟨⟨lk_i rfl rfl, lk_i rfl (by simp), lk_d rfl rfl, lk_d rfl rfl, trivial⟩, trivial, rfl, pin_0⟩ ?_
    rintro i ⟨hi, hg⟩
    by_cases c2 : i < xs.length
    · have b2 : decide ((i : Int) < (xs.length : Int)) = true := by simpa using c2
      have hrow : (xs.map licL)[((i : Int)).toNat]? = some (licL xs[i]) := by simp [c2]
      rw [licL_eq xs[i]] at hrow
      have hm : (xs[i]).sm := hs _ (List.getElem_mem c2)
      have hD : xs.getD i lz = xs[i] := by simp [List.getD, c2]
      have hV := ValidLicence_ro xs[i] hm
      have hT : List.take ((i : Int)).toNat (xs.map licL) = (xs.take i).map licL := by simp [List.map_take]
      have hC := ContainsFunc_ro (xs.take i) _ 71 [.dptr (licL xs[i])] (fun y => clashB xs[i] y) rfl (fun H => FzL.of rfl) hT (fun y hy m => vhClosure_ro xs[i] y hm (hs y (List.mem_of_mem_take hy)) m) (by simp; omega)
      by_cases c0 : i = 0
      · have b5 : decide ((0 : Int) < (i : Int)) = false := by simp; omega
        ((repeat' (first
    | (show SQ _ _ _ _ _ _ _ _; first | apply sq_nil | (apply q_move; exact rfl; exact rfl) | (apply q_assign; exact rfl; exact rfl) | (apply q_add; exact rfl; exact rfl; exact rfl) | (apply q_lss; exact rfl; exact rfl; exact rfl) | (apply q_ixd; exact rfl; exact rfl; exact rfl; exact (ty rfl); exact rfl; exact (by first | omega | (simp; done) | (simp; omega)); exact (by first | omega | (simp; done) | (simp; omega)); exact (by first | rfl | assumption)))
    | (show SQ _ _ _ _ _ _ _ _; (first | (apply q_ldad; exact rfl; exact rfl; exact (ty rfl); exact rfl; exact rfl) | (apply q_alloc; exact rfl; exact (ty rfl); exact rfl; exact rfl) | (apply q_store; exact rfl; exact rfl; exact (ty rfl); exact rfl; exact (by first | rfl | assumption | ((try simp only [Nat.zero_add]); refine List.getElem?_set_self ?_; (try simp only [List.length_set]); assumption)); exact rfl; exact rfl; exact rfl)); (try simp only [put, rowsOf, plR, List.all_cons, selE, ovr, setH, del, cellsA, splice, isV, List.nil_append, List.cons_append, List.map_cons, List.map_nil, List.length_cons, List.length_nil, List.set_cons_zero, List.set_cons_succ, List.take_succ_cons, List.take_zero, List.take_nil, List.drop_succ_cons, List.drop_zero, List.drop_nil, List.append_nil, List.all_cons, List.all_nil, Bool.and_true, Bool.true_and, Bool.and_false, Bool.false_and, Nat.reduceAdd, Nat.zero_add, Nat.add_zero, Nat.reduceEqDiff, if_true, if_false, reduceIte]))
    | (show DE _ _ _ _ _ _ _ _ _ _ _ _; first | (apply e_move; exact rfl; exact rfl; exact rfl) | (apply e_pick_t; exact rfl; exact rfl; exact rfl; exact (by first | assumption | exact rfl); exact rfl) | (apply e_pick_f; exact rfl; exact rfl; exact rfl; exact (by first | assumption | exact rfl); exact rfl) | (apply e_not; exact rfl; exact rfl; exact rfl) | (apply e_gtr; exact rfl; exact rfl; exact rfl; exact rfl) | (apply e_mkf; exact rfl; exact rfl; exact rfl) | (apply e_sdl_h; exact rfl; exact rfl; exact rfl; exact (ty rfl); exact rfl; exact (by first | omega | (simp; done) | (simp; omega)); exact (by first | omega | (simp; done) | (simp; omega)); exact rfl) | (apply e_g; exact rfl; exact rfl; exact rfl; exact (by assumption)) | (apply e_s; exact rfl; exact rfl; exact rfl; exact (by assumption); exact rfl) | (apply e_g; exact rfl; exact rfl; exact rfl; exact rfl) | (apply e_s; exact rfl; exact rfl; exact rfl; exact rfl; exact rfl) | (apply e_sU; exact rfl; exact rfl; exact rfl; exact rfl; exact rfl))
    | (show DE _ _ _ _ _ _ _ _ _ _ _ _; (first | (apply dr_nil; exact rfl) | (apply e_ldap; exact rfl; exact rfl; exact (ty rfl); exact rfl; exact rfl; exact (by first | rfl | assumption | ((try simp only [Nat.zero_add]); refine List.getElem?_set_self ?_; (try simp only [List.length_set]); assumption)); exact rfl; exact rfl) | (apply e_callU; exact rfl; exact rfl; exact rfl; exact FzL.of rfl; exact hV _; exact rfl) | (apply e_callU; exact rfl; exact rfl; exact rfl; exact FzL.of rfl; exact hC _; exact rfl)); (try simp only [put, rowsOf, plR, List.all_cons, selE, ovr, setH, del, cellsA, splice, isV, List.nil_append, List.cons_append, List.map_cons, List.map_nil, List.length_cons, List.length_nil, List.set_cons_zero, List.set_cons_succ, List.take_succ_cons, List.take_zero, List.take_nil, List.drop_succ_cons, List.drop_zero, List.drop_nil, List.append_nil, List.all_cons, List.all_nil, Bool.and_true, Bool.true_and, Bool.and_false, Bool.false_and, Nat.reduceAdd, Nat.zero_add, Nat.add_zero, Nat.reduceEqDiff, if_true, if_false, reduceIte]))
    | (show DE _ _ _ _ _ _ _ _ _ _ _ _; apply e_gs; exact rfl; exact rfl; exact rfl; exact rfl; all_goals intro h)
    | (show AW _ _ _ _ _ _ _ _; first | refine aw_region ?_ | (refine aw_seqk ?_; intro K hK) | refine aw_block ?_ | (apply aw_cond_t; exact rfl; exact rfl) | (apply aw_cond_t; exact rfl; exact (by assumption)) | refine aw_ret ?_ | refine aw_skip ?_ | refine aw_drawE (id := 6) [0, 1, 3, 7, 15, 31, 63, 127, 255, 127, 127, 1151, 3711, 7807, 15999, 32767, 65535, 131071, 262143, 524287, 524287, 2097151, 524287, 8388607, 16777215] [1, 1, 0, 0, 0, 0, 0, 0, 1, 0, 0, 0, 0, 0, 1, 0, 0, 0, 0, 0, 0, 0, 0, 1, 0] mixed (by kernel_rfl) ?_ | (apply aw_ite; exact rfl; all_goals intro h))
    | refine thn_n ?_
    | (refine hK _ _ _ ?_; clear hK K)
    | refine thn_r ?_
    | refine inb_n ?_
    | refine inb_r ?_)); all_goals (repeat (clear hK K)))
        all_goals first
          | (refine fin_r (fin_b rfl ?_)
             refine (holdB_false c2 ?_).symm
             have hac := any_clash hg c2
             simp_all [goodAt, ltS_le])
          | (refine ⟨i + 1, id, ⟨c2, fun j hj => ?_⟩, by omega, ⟨lk_i rfl (by rw [IntWalk.i64_in _ (by omega)]; rfl), lk_i rfl rfl, lk_d rfl rfl, lk_d rfl rfl, trivial⟩, trivial, rfl, pin_0⟩
             by_cases hjq : j < i
             · exact hg j hjq
             · have : j = i := by omega
               subst this
               have hac := any_clash hg c2
               simp_all [goodAt, ltS_le])
      · have hw : IntKind.i64.wrap ((i : Int) - 1) = (i : Int) - 1 := IntWalk.i64_in _ (by omega)
        have hrow2 : (xs.map licL)[(IntKind.i64.wrap ((i : Int) - 1)).toNat]? = some (licL xs[i - 1]) := by
          rw [hw, show ((i : Int) - 1).toNat = i - 1 by omega]; simp [show i - 1 < xs.length by omega]
        have hP : xs.getD (i - 1) lz = xs[i - 1] := by simp [List.getD, show i - 1 < xs.length by omega]
        have b5 : decide ((0 : Int) < (i : Int)) = true := by simp; omega
        ((repeat' (first
    | (show SQ _ _ _ _ _ _ _ _; first | apply sq_nil | (apply q_move; exact rfl; exact rfl) | (apply q_assign; exact rfl; exact rfl) | (apply q_add; exact rfl; exact rfl; exact rfl) | (apply q_lss; exact rfl; exact rfl; exact rfl) | (apply q_ixd; exact rfl; exact rfl; exact rfl; exact (ty rfl); exact rfl; exact (by first | omega | (simp; done) | (simp; omega)); exact (by first | omega | (simp; done) | (simp; omega)); exact (by first | rfl | assumption)))
    | (show SQ _ _ _ _ _ _ _ _; (first | (apply q_ldad; exact rfl; exact rfl; exact (ty rfl); exact rfl; exact rfl) | (apply q_alloc; exact rfl; exact (ty rfl); exact rfl; exact rfl) | (apply q_store; exact rfl; exact rfl; exact (ty rfl); exact rfl; exact (by first | rfl | assumption | ((try simp only [Nat.zero_add]); refine List.getElem?_set_self ?_; (try simp only [List.length_set]); assumption)); exact rfl; exact rfl; exact rfl)); (try simp only [put, rowsOf, plR, List.all_cons, selE, ovr, setH, del, cellsA, splice, isV, List.nil_append, List.cons_append, List.map_cons, List.map_nil, List.length_cons, List.length_nil, List.set_cons_zero, List.set_cons_succ, List.take_succ_cons, List.take_zero, List.take_nil, List.drop_succ_cons, List.drop_zero, List.drop_nil, List.append_nil, List.all_cons, List.all_nil, Bool.and_true, Bool.true_and, Bool.and_false, Bool.false_and, Nat.reduceAdd, Nat.zero_add, Nat.add_zero, Nat.reduceEqDiff, if_true, if_false, reduceIte]))
    | (show DE _ _ _ _ _ _ _ _ _ _ _ _; first | (apply e_move; exact rfl; exact rfl; exact rfl) | (apply e_pick_t; exact rfl; exact rfl; exact rfl; exact (by first | assumption | exact rfl); exact rfl) | (apply e_pick_f; exact rfl; exact rfl; exact rfl; exact (by first | assumption | exact rfl); exact rfl) | (apply e_fieldAddr; exact rfl; exact rfl; exact (ty rfl); exact rfl; exact rfl; exact rfl; exact rfl; exact rfl) | (apply e_not; exact rfl; exact rfl; exact rfl) | (apply e_sub; exact rfl; exact rfl; exact rfl; exact rfl) | (apply e_gtr; exact rfl; exact rfl; exact rfl; exact rfl) | (apply e_sleq; exact rfl; exact rfl; exact rfl; exact rfl) | (apply e_ixd; exact rfl; exact rfl; exact rfl; exact (ty rfl); exact rfl; exact (by first | omega | (simp; done) | (simp; omega)); exact (by first | omega | (simp; done) | (simp; omega)); exact (by first | rfl | assumption); exact rfl) | (apply e_ld1d; exact rfl; exact rfl; exact (ty rfl); exact rfl; exact rfl; exact rfl) | (apply e_ld1p; exact rfl; exact rfl; exact (ty rfl); exact rfl; exact rfl; exact (by first | rfl | assumption | ((try simp only [Nat.zero_add]); refine List.getElem?_set_self ?_; (try simp only [List.length_set]); assumption)); exact rfl; exact rfl) | (apply e_mkf; exact rfl; exact rfl; exact rfl) | (apply e_sdl_h; exact rfl; exact rfl; exact rfl; exact (ty rfl); exact rfl; exact (by first | omega | (simp; done) | (simp; omega)); exact (by first | omega | (simp; done) | (simp; omega)); exact rfl) | (apply e_g; exact rfl; exact rfl; exact rfl; exact (by assumption)) | (apply e_s; exact rfl; exact rfl; exact rfl; exact (by assumption); exact rfl) | (apply e_s; exact rfl; exact rfl; exact rfl; exact rfl; exact rfl) | (apply e_sU; exact rfl; exact rfl; exact rfl; exact rfl; exact rfl))
    | (show DE _ _ _ _ _ _ _ _ _ _ _ _; (first | (apply dr_nil; exact rfl) | (apply e_ldap; exact rfl; exact rfl; exact (ty rfl); exact rfl; exact rfl; exact (by first | rfl | assumption | ((try simp only [Nat.zero_add]); refine List.getElem?_set_self ?_; (try simp only [List.length_set]); assumption)); exact rfl; exact rfl) | (apply e_callU; exact rfl; exact rfl; exact rfl; exact FzL.of rfl; exact hV _; exact rfl) | (apply e_callU; exact rfl; exact rfl; exact rfl; exact FzL.of rfl; exact hC _; exact rfl)); (try simp only [put, rowsOf, plR, List.all_cons, selE, ovr, setH, del, cellsA, splice, isV, List.nil_append, List.cons_append, List.map_cons, List.map_nil, List.length_cons, List.length_nil, List.set_cons_zero, List.set_cons_succ, List.take_succ_cons, List.take_zero, List.take_nil, List.drop_succ_cons, List.drop_zero, List.drop_nil, List.append_nil, List.all_cons, List.all_nil, Bool.and_true, Bool.true_and, Bool.and_false, Bool.false_and, Nat.reduceAdd, Nat.zero_add, Nat.add_zero, Nat.reduceEqDiff, if_true, if_false, reduceIte]))
    | (show DE _ _ _ _ _ _ _ _ _ _ _ _; apply e_gs; exact rfl; exact rfl; exact rfl; exact rfl; all_goals intro h)
    | (show AW _ _ _ _ _ _ _ _; first | refine aw_region ?_ | (refine aw_seqk ?_; intro K hK) | refine aw_block ?_ | (apply aw_cond_t; exact rfl; exact rfl) | (apply aw_cond_t; exact rfl; exact (by assumption)) | refine aw_ret ?_ | refine aw_skip ?_ | refine aw_drawE (id := 6) [0, 1, 3, 7, 15, 31, 63, 127, 255, 127, 127, 1151, 3711, 7807, 15999, 32767, 65535, 131071, 262143, 524287, 524287, 2097151, 524287, 8388607, 16777215] [1, 1, 0, 0, 0, 0, 0, 0, 1, 0, 0, 0, 0, 0, 1, 0, 0, 0, 0, 0, 0, 0, 0, 1, 0] mixed (by kernel_rfl) ?_ | (apply aw_ite; exact rfl; all_goals intro h))
    | refine thn_n ?_
    | (refine hK _ _ _ ?_; clear hK K)
    | refine thn_r ?_
    | refine inb_n ?_
    | refine inb_r ?_)); all_goals (repeat (clear hK K)))
        all_goals first
          | (refine fin_r (fin_b rfl ?_)
             refine (holdB_false c2 ?_).symm
             have hac := any_clash hg c2
             simp_all [goodAt, ltS_le])
          | (refine ⟨i + 1, id, ⟨c2, fun j hj => ?_⟩, by omega, ⟨lk_i rfl (by rw [IntWalk.i64_in _ (by omega)]; rfl), lk_i rfl rfl, lk_d rfl rfl, lk_d rfl rfl, trivial⟩, trivial, rfl, pin_0⟩
             by_cases hjq : j < i
             · exact hg j hjq
             · have : j = i := by omega
               subst this
               have hac := any_clash hg c2
               simp_all [goodAt, ltS_le])
    · have b2 : decide ((i : Int) < (xs.length : Int)) = false := by simpa using c2
      ((repeat' (first
    | (show SQ _ _ _ _ _ _ _ _; first | apply sq_nil | (apply q_assign; exact rfl; exact rfl) | (apply q_lss; exact rfl; exact rfl; exact rfl))
    | (show AW _ _ _ _ _ _ _ _; first | refine aw_region ?_ | (refine aw_seqk ?_; intro K hK) | (apply aw_cond_f; exact rfl; exact (by assumption)) | refine aw_ret ?_ | refine aw_exit ?_)
    | refine thn_n ?_
    | (refine hK _ _ _ ?_; clear hK K)
    | refine thn_e ?_
    | refine inb_same ?_
    | (clear hK K; refine hK _ _ _ ?_; clear hK K))); all_goals (repeat (clear hK K)))
      all_goals refine fin_r (fin_b rfl ?_)
      have : i = xs.length := by omega
      subst this
      rw [holdB, allR_true hg, Bool.and_true]
      simp [c1]
  · have b1 : decide ((24 : Int) < ((xs.map licL).length : Int)) = true := by simp; omega
    refine RO.ofv' Try.func46 Try.ntmps46 rfl (goFn_of Try.func46 rfl (by kernel_rfl)) rfl rfl ?_
    ((repeat' (first
    | (show SQ _ _ _ _ _ _ _ _; first | apply sq_nil | (apply q_move; exact rfl; exact rfl) | (apply q_assign; exact rfl; exact rfl) | (apply q_lend; exact rfl; exact rfl; exact (ty rfl); exact rfl) | (apply q_gtr; exact rfl; exact rfl; exact rfl))
    | (show AW _ _ _ _ _ _ _ _; first | refine aw_region ?_ | (refine aw_seqk ?_; intro K hK) | (apply aw_cond_t; exact rfl; exact (by assumption)) | refine aw_ret ?_)
    | refine thn_n ?_
    | (refine hK _ _ _ ?_; clear hK K)
    | refine thn_r ?_)); all_goals (repeat (clear hK K)))
    all_goals refine fin_r (fin_b rfl ?_)
    simp [holdB, c1]
set_option maxHeartbeats 4000000 in
theorem specValidHoldings_ro (xs : List Lic) (hs : ∀ l ∈ xs, l.sm) (hn : xs.length ≤ 1048576) (k : Nat) : RO Try.prog 16 [.dsl 11 (xs.map licL)] k (.v (.bool (holdB xs))) [] k := by
  refine RO.ofv' Try.func16 Try.ntmps16 rfl (goFn_of Try.func16 rfl (by kernel_rfl)) rfl rfl ?_
  ((repeat' (first
    | (show SQ _ _ _ _ _ _ _ _; first | apply sq_nil | (apply q_move; exact rfl; exact rfl) | (apply q_assign; exact rfl; exact rfl))
    | (show SQ _ _ _ _ _ _ _ _; (first | (apply q_callU; exact rfl; exact rfl; exact rfl; exact FzL.of rfl; exact l26List_ro xs hs hn _)); (try simp only [put, rowsOf, plR, List.all_cons, selE, ovr, setH, del, cellsA, splice, isV, List.nil_append, List.cons_append, List.map_cons, List.map_nil, List.length_cons, List.length_nil, List.set_cons_zero, List.set_cons_succ, List.take_succ_cons, List.take_zero, List.take_nil, List.drop_succ_cons, List.drop_zero, List.drop_nil, List.append_nil, List.all_cons, List.all_nil, Bool.and_true, Bool.true_and, Bool.and_false, Bool.false_and, Nat.reduceAdd, Nat.zero_add, Nat.add_zero, Nat.reduceEqDiff, if_true, if_false, reduceIte]))
    | (show AW _ _ _ _ _ _ _ _; first | refine aw_region ?_ | (refine aw_seqk ?_; intro K hK) | refine aw_ret ?_)
    | refine thn_n ?_
    | (refine hK _ _ _ ?_; clear hK K))); all_goals (repeat (clear hK K)))
  all_goals exact fin_r (fin_b rfl rfl)
end Go.Proofs.Ytiificaolakgdaa.Li
