/-
  What a holder may use: widths, the licence for something.
-/
import Derived.Test.YtiificaolakgdaaLiV
import Derived.Test.YtiificaolakgdaaLnA
namespace Go.Proofs.Ytiificaolakgdaa.Li
open Go Go.RowKit Go.Proofs.Ytiificaolakgdaa.Aw Go.Proofs.Ytiificaolakgdaa.Ar
set_option linter.unusedSimpArgs false
set_option linter.unusedVariables false
attribute [local irreducible] AW SQ Step RO RC DE Thn InB

def ptL (x y : Int) : List AV := [.v (.int .i64 x), .v (.int .i64 y)]
def hasB (l : Lic) (x y : Int) : Bool := inB x l.x l.e && inB y l.y l.n
def forB (l : Lic) (ho : ByteArray) (x y day : Int) : Bool := eqS l.ho ho && hasB l x y && inB day l.fr l.un
set_option maxHeartbeats 4000000 in
theorem l26Has_ro (l : Lic) (x y : Int) (k : Nat) : RO Try.prog 39 [areaA l.x l.y l.e l.n, .agg (ptL x y)] k (.v (.bool (hasB l x y))) [] k := by
  refine RO.ofv' Try.func39 Try.ntmps39 rfl (goFn_of Try.func39 rfl (by kernel_rfl)) rfl rfl ?_
  unfold areaA ptL
  ((repeat' (first
    | (show SQ _ _ _ _ _ _ _ _; first | apply sq_nil | (apply q_move; exact rfl; exact rfl) | (apply q_assign; exact rfl; exact rfl) | (apply q_pick_t; exact rfl; exact rfl; exact rfl; exact (by first | assumption | exact rfl)) | (apply q_pick_f; exact rfl; exact rfl; exact rfl; exact (by first | assumption | exact rfl)) | (apply q_fieldAddr; exact rfl; exact rfl; exact (ty rfl); exact rfl; exact rfl; exact rfl; exact rfl) | (apply q_ld1p; exact rfl; exact rfl; exact (ty rfl); exact rfl; exact rfl; exact (by first | rfl | assumption | ((try simp only [Nat.zero_add]); refine List.getElem?_set_self ?_; (try simp only [List.length_set]); assumption)); exact rfl) | (apply q_g; exact rfl; exact rfl; exact rfl; exact (by assumption)) | (apply q_s; exact rfl; exact rfl; exact rfl; exact (by assumption); exact rfl))
    | (show SQ _ _ _ _ _ _ _ _; (first | (apply q_box; exact rfl; exact rfl; exact rfl) | (apply q_callU; exact rfl; exact rfl; exact rfl; exact FzL.of rfl; exact l00In_ro _ _ _ _)); (try simp only [put, rowsOf, plR, List.all_cons, selE, ovr, setH, del, cellsA, splice, isV, List.nil_append, List.cons_append, List.map_cons, List.map_nil, List.length_cons, List.length_nil, List.set_cons_zero, List.set_cons_succ, List.take_succ_cons, List.take_zero, List.take_nil, List.drop_succ_cons, List.drop_zero, List.drop_nil, List.append_nil, List.all_cons, List.all_nil, Bool.and_true, Bool.true_and, Bool.and_false, Bool.false_and, Nat.reduceAdd, Nat.zero_add, Nat.add_zero, Nat.reduceEqDiff, if_true, if_false, reduceIte]))
    | (show SQ _ _ _ _ _ _ _ _; apply q_gs; exact rfl; exact rfl; exact rfl; exact rfl; all_goals intro h)
    | (show AW _ _ _ _ _ _ _ _; first | refine aw_region ?_ | (refine aw_seqk ?_; intro K hK) | refine aw_ret ?_)
    | refine thn_n ?_
    | (refine hK _ _ _ ?_; clear hK K))); all_goals (repeat (clear hK K)))
  all_goals refine fin_r (fin_b rfl ?_)
  all_goals simp_all [hasB]
def sumW (p : Lic → Bool) : List Lic → Int → Int
  | [], a => a
  | l :: r, a => sumW p r (if p l then IntKind.i64.wrap (a + IntKind.i64.wrap (l.hi - l.lo)) else a)
def widR (xs : List Lic) (ho : ByteArray) (x y day : Int) : AV := .tup (if holdB xs then [.v (.int .i64 (sumW (fun l => forB l ho x y day) xs 0)), .v (.int .i64 0)] else [.v (.int .i64 0), .v (.int .i64 1)])
set_option maxHeartbeats 4000000 in
theorem specWidthOf_ro (xs : List Lic) (ho : ByteArray) (x y day : Int) (hs : ∀ l ∈ xs, l.sm) (hn : xs.length ≤ 1048576) (k : Nat) : RO Try.prog 13 [.dsl 11 (xs.map licL), .v (.string ho), .agg (ptL x y), .v (.int .i64 day)] k (widR xs ho x y day) [] k := by
  unfold widR
  by_cases c1 : holdB xs = true
  · rw [c1, if_pos rfl]
    have b0 : (!holdB xs) = false := by rw [c1]; rfl
    refine RO.ofp Try.func13 Try.ntmps13 rfl (goFn_of Try.func13 rfl (by kernel_rfl)) rfl rfl rfl ?_
    ((repeat' (first
    | (show SQ _ _ _ _ _ _ _ _; first | apply sq_nil | (apply q_move; exact rfl; exact rfl) | (apply q_assign; exact rfl; exact rfl) | (apply q_not; exact rfl; exact rfl))
    | (show SQ _ _ _ _ _ _ _ _; (first | (apply q_box; exact rfl; exact rfl; exact rfl) | (apply q_callU; exact rfl; exact rfl; exact rfl; exact FzL.of rfl; exact l26List_ro xs hs hn _)); (try simp only [put, rowsOf, plR, List.all_cons, selE, ovr, setH, del, cellsA, splice, isV, List.nil_append, List.cons_append, List.map_cons, List.map_nil, List.length_cons, List.length_nil, List.set_cons_zero, List.set_cons_succ, List.take_succ_cons, List.take_zero, List.take_nil, List.drop_succ_cons, List.drop_zero, List.drop_nil, List.append_nil, List.all_cons, List.all_nil, Bool.and_true, Bool.true_and, Bool.and_false, Bool.false_and, Nat.reduceAdd, Nat.zero_add, Nat.add_zero, Nat.reduceEqDiff, if_true, if_false, reduceIte]))
    | (show AW _ _ _ _ _ _ _ _; first | refine aw_region ?_ | (refine aw_seqk ?_; intro K hK) | refine aw_block ?_ | (apply aw_cond_f; exact rfl; exact (by assumption)) | refine aw_skip ?_)
    | refine thn_n ?_
    | (refine hK _ _ _ ?_; clear hK K))); all_goals (repeat (clear hK K)))
    refine aw_loop (ρ := id) (ι := Nat × Int) (fun s => ([(11, .v (.int .i64 s.1)), (10, .v (.int .i64 s.2)), (6, .ptr 0 0 0), (3, .v (.int .i64 day)), (1, .v (.string ho)), (0, .dsl 11 (xs.map licL))], [(0, ⟨32, 2, false, [ptL x y]⟩)], 1))
      (fun s => s.1 ≤ xs.length ∧ sumW (fun l => forB l ho x y day) (xs.drop s.1) s.2 = sumW (fun l => forB l ho x y day) xs 0) (fun s => xs.length - s.1) (0, 0)
      ⟨Nat.zero_le _, rfl⟩ ⟨by (repeat (refine ⟨by first | exact lk_i rfl rfl | exact lk_d rfl rfl | exact lk_v rfl rfl | exact lk_r rfl rfl rfl, ?_⟩)); exact trivial, by (repeat (refine ⟨by first | exact ⟨rfl, rfl, rfl⟩, ?_⟩)); exact trivial, by rfl, by exact pin_0⟩ ?_
    rintro ⟨i, a⟩ ⟨hi, hw⟩
    by_cases c2 : i < xs.length
    · have b2 : decide ((i : Int) < ((xs.map licL).length : Int)) = true := by simpa using c2
      have hrow : (xs.map licL)[((i : Int)).toNat]? = some (licL xs[i]) := by simp [c2]
      rw [List.drop_eq_getElem_cons c2] at hw
      ((repeat' (first
    | (show SQ _ _ _ _ _ _ _ _; first | apply sq_nil | (apply q_move; exact rfl; exact rfl) | (apply q_assign; exact rfl; exact rfl) | (apply q_lend; exact rfl; exact rfl; exact (ty rfl); exact rfl) | (apply q_add; exact rfl; exact rfl; exact rfl) | (apply q_lss; exact rfl; exact rfl; exact rfl) | (apply q_ixd; exact rfl; exact rfl; exact rfl; exact (ty rfl); exact rfl; exact (by first | omega | (simp; done) | (simp; omega)); exact (by first | omega | (simp; done) | (simp; omega)); exact (by first | rfl | assumption)))
    | (show DE _ _ _ _ _ _ _ _ _ _ _ _; first | (apply e_move; exact rfl; exact rfl; exact rfl) | (apply e_assign; exact rfl; exact rfl; exact rfl) | (apply e_pick_t; exact rfl; exact rfl; exact rfl; exact (by first | assumption | exact rfl); exact rfl) | (apply e_pick_f; exact rfl; exact rfl; exact rfl; exact (by first | assumption | exact rfl); exact rfl) | (apply e_fieldAddr; exact rfl; exact rfl; exact (ty rfl); exact rfl; exact rfl; exact rfl; exact rfl; exact rfl) | (apply e_nilc; exact rfl; exact rfl; exact rfl; exact rfl) | (apply e_add; exact rfl; exact rfl; exact rfl; exact rfl) | (apply e_sub; exact rfl; exact rfl; exact rfl; exact rfl) | (apply e_seql; exact rfl; exact rfl; exact rfl; exact rfl) | (apply e_ld1d; exact rfl; exact rfl; exact (ty rfl); exact rfl; exact rfl; exact rfl) | (apply e_g; exact rfl; exact rfl; exact rfl; exact (by assumption)) | (apply e_s; exact rfl; exact rfl; exact rfl; exact (by assumption); exact rfl) | (apply e_s; exact rfl; exact rfl; exact rfl; exact rfl; exact rfl))
    | (show DE _ _ _ _ _ _ _ _ _ _ _ _; (first | (apply dr_nil; exact rfl) | (apply e_ldad; exact rfl; exact rfl; exact (ty rfl); exact rfl; exact rfl; exact rfl) | (apply e_ldap; exact rfl; exact rfl; exact (ty rfl); exact rfl; exact rfl; exact (by first | rfl | assumption | ((try simp only [Nat.zero_add]); refine List.getElem?_set_self ?_; (try simp only [List.length_set]); assumption)); exact rfl; exact rfl) | (apply e_callU; exact rfl; exact rfl; exact rfl; exact FzL.of rfl; exact l26Has_ro xs[i] x y _; exact rfl) | (apply e_callU; exact rfl; exact rfl; exact rfl; exact FzL.of rfl; exact l00In_ro _ _ _ _; exact rfl)); (try simp only [put, rowsOf, plR, List.all_cons, selE, ovr, setH, del, cellsA, splice, isV, List.nil_append, List.cons_append, List.map_cons, List.map_nil, List.length_cons, List.length_nil, List.set_cons_zero, List.set_cons_succ, List.take_succ_cons, List.take_zero, List.take_nil, List.drop_succ_cons, List.drop_zero, List.drop_nil, List.append_nil, List.all_cons, List.all_nil, Bool.and_true, Bool.true_and, Bool.and_false, Bool.false_and, Nat.reduceAdd, Nat.zero_add, Nat.add_zero, Nat.reduceEqDiff, if_true, if_false, reduceIte]))
    | (show DE _ _ _ _ _ _ _ _ _ _ _ _; apply e_gs; exact rfl; exact rfl; exact rfl; exact rfl; all_goals intro h)
    | (show AW _ _ _ _ _ _ _ _; first | refine aw_region ?_ | (refine aw_seqk ?_; intro K hK) | refine aw_block ?_ | (apply aw_cond_f; exact rfl; exact rfl) | (apply aw_cond_t; exact rfl; exact (by assumption)) | refine aw_skip ?_ | refine aw_drawE (id := 8) [0, 1, 3, 7, 0, 31, 63, 127, 255, 511, 1023, 127, 4095, 8191, 16383, 32767, 32767, 98303, 229375, 491519, 32767, 1081343, 3178495, 7372799, 16777215, 33554431] [0, 0, 0, 1, 0, 0, 0, 0, 0, 0, 1, 1, 1, 0, 0, 0, 0, 0, 0, 1, 0, 0, 0, 1, 1, 0] mixed (by kernel_rfl) ?_ | refine aw_drawE (id := 9) [0, 0, 2, 6, 14, 0, 32, 96, 224, 510, 1023, 2047] [0, 0, 0, 0, 1, 0, 0, 0, 1, 0, 0, 0] mixed (by kernel_rfl) ?_ | (apply aw_ite; exact rfl; all_goals intro h))
    | refine thn_n ?_
    | (refine hK _ _ _ ?_; clear hK K)
    | refine inb_n ?_)); all_goals (repeat (clear hK K)))
      all_goals first
        | (refine ⟨(i + 1, IntKind.i64.wrap (a + IntKind.i64.wrap (xs[i].hi - xs[i].lo))), id, ⟨c2, ?_⟩, by simp only; omega, ⟨by (repeat (refine ⟨by first | exact lk_i rfl rfl | exact lk_i rfl (by (try dsimp only); first | rfl | omega | (rw [IntWalk.i64_in _ (by omega)]; first | rfl | omega | (push_cast; omega)) | (simp; done) | (simp; omega)) | exact lk_d rfl rfl | exact lk_v rfl rfl | exact lk_r rfl rfl rfl | exact lk_v rfl (by (try dsimp only); first | rfl | assumption | (simp; done)), ?_⟩)); exact trivial, by (repeat (refine ⟨by first | exact ⟨rfl, rfl, rfl⟩, ?_⟩)); exact trivial, by rfl, by exact pin_0⟩⟩
           rw [← hw]; simp_all [sumW, forB]; done)
        | (refine ⟨(i + 1, a), id, ⟨c2, ?_⟩, by simp only; omega, ⟨by (repeat (refine ⟨by first | exact lk_i rfl rfl | exact lk_i rfl (by (try dsimp only); first | rfl | omega | (rw [IntWalk.i64_in _ (by omega)]; first | rfl | omega | (push_cast; omega)) | (simp; done) | (simp; omega)) | exact lk_d rfl rfl | exact lk_v rfl rfl | exact lk_r rfl rfl rfl, ?_⟩)); exact trivial, by (repeat (refine ⟨by first | exact ⟨rfl, rfl, rfl⟩, ?_⟩)); exact trivial, by rfl, by exact pin_0⟩⟩
           rw [← hw]; simp_all [sumW, forB])
    · have b2 : decide ((i : Int) < ((xs.map licL).length : Int)) = false := by simpa using c2
      rw [List.drop_eq_nil_of_le (by omega)] at hw
      ((repeat' (first
    | (show SQ _ _ _ _ _ _ _ _; first | apply sq_nil | (apply q_move; exact rfl; exact rfl) | (apply q_assign; exact rfl; exact rfl) | (apply q_lend; exact rfl; exact rfl; exact (ty rfl); exact rfl) | (apply q_lss; exact rfl; exact rfl; exact rfl))
    | (show AW _ _ _ _ _ _ _ _; first | refine aw_region ?_ | (refine aw_seqk ?_; intro K hK) | (apply aw_cond_f; exact rfl; exact (by assumption)) | refine aw_ret ?_ | refine aw_exit ?_)
    | refine thn_n ?_
    | (refine hK _ _ _ ?_; clear hK K)
    | refine thn_e ?_
    | refine inb_same ?_
    | (clear hK K; refine hK _ _ _ ?_; clear hK K))); all_goals (repeat (clear hK K)))
      refine fin_r (fin_p (.r2 _ _ _ _ (.tmp _ _ rfl) (.tmp _ _ rfl)) ?_ rfl rfl rfl)
      rw [← hw]; rfl
  · have c1 : holdB xs = false := by simpa using c1
    rw [c1, if_neg (by simp)]
    have b0 : (!holdB xs) = true := by rw [c1]; rfl
    refine RO.ofp Try.func13 Try.ntmps13 rfl (goFn_of Try.func13 rfl (by kernel_rfl)) rfl rfl rfl ?_
    ((repeat' (first
    | (show SQ _ _ _ _ _ _ _ _; first | apply sq_nil | (apply q_move; exact rfl; exact rfl) | (apply q_assign; exact rfl; exact rfl) | (apply q_not; exact rfl; exact rfl))
    | (show SQ _ _ _ _ _ _ _ _; (first | (apply q_box; exact rfl; exact rfl; exact rfl) | (apply q_callU; exact rfl; exact rfl; exact rfl; exact FzL.of rfl; exact l26List_ro xs hs hn _)); (try simp only [put, rowsOf, plR, List.all_cons, selE, ovr, setH, del, cellsA, splice, isV, List.nil_append, List.cons_append, List.map_cons, List.map_nil, List.length_cons, List.length_nil, List.set_cons_zero, List.set_cons_succ, List.take_succ_cons, List.take_zero, List.take_nil, List.drop_succ_cons, List.drop_zero, List.drop_nil, List.append_nil, List.all_cons, List.all_nil, Bool.and_true, Bool.true_and, Bool.and_false, Bool.false_and, Nat.reduceAdd, Nat.zero_add, Nat.add_zero, Nat.reduceEqDiff, if_true, if_false, reduceIte]))
    | (show AW _ _ _ _ _ _ _ _; first | refine aw_region ?_ | (refine aw_seqk ?_; intro K hK) | (apply aw_cond_t; exact rfl; exact (by assumption)) | refine aw_ret ?_)
    | refine thn_n ?_
    | (refine hK _ _ _ ?_; clear hK K)
    | refine thn_r ?_)); all_goals (repeat (clear hK K)))
    refine fin_r (fin_p (.r2 _ _ _ _ (.tmp _ _ rfl) (.tmp _ _ rfl)) ?_ rfl rfl rfl)
    rfl
end Go.Proofs.Ytiificaolakgdaa.Li

-- A licence put into holdings, a licence divided: holdings still, widths the same. No program in sight.
namespace Go.Proofs.Ytiificaolakgdaa.Li
open Go Go.RowKit Go.Proofs.Ytiificaolakgdaa.Aw Go.Proofs.Ytiificaolakgdaa.Ar
set_option linter.unusedSimpArgs false
set_option linter.unusedVariables false

theorem ins_get {xs : List Lic} {a : Nat} (ha : a ≤ xs.length) (x : Lic) {i : Nat} (hi : i < (insL xs a x).length) :
    (insL xs a x)[i] = if h1 : i < a then xs[i]'(by omega) else if h2 : i = a then x else xs[i - 1]'(by rw [insL_len ha] at hi; omega) := by
  have hi' := hi
  rw [insL_len ha] at hi'
  suffices key : ∀ (h : i < (xs.take a ++ x :: xs.drop a).length), (xs.take a ++ x :: xs.drop a)[i]'h = if h1 : i < a then xs[i]'(by omega) else if h2 : i = a then x else xs[i - 1]'(by omega) from key hi

  intro hi
  split
  · rename_i h1
    rw [List.getElem_append_left (by simp; omega)]
    simp
  · rename_i h1
    have ht : (xs.take a).length = a := by simp; omega
    rw [List.getElem_append_right (by omega)]
    split
    · rename_i h2
      subst h2
      simp [ht]
    · rename_i h2
      obtain ⟨d, rfl⟩ : ∃ d, i = a + d + 1 := ⟨i - a - 1, by omega⟩
      have : a + d + 1 - (xs.take a).length = d + 1 := by omega
      simp only [this, List.getElem_cons_succ, List.getElem_drop]
      congr 1
theorem hold_ins {xs : List Lic} {x : Lic} {a : Nat} (h : HoldP xs) (hx : licB x = true) (ha : AtP xs x a) (hc : ∀ j (hj : j < xs.length), clB xs[j] x = false) (hn : xs.length < 24) : HoldP (insL xs a x) := by
  have hl := insL_len ha.le x
  refine ⟨by omega, fun i hi => ?_, fun i hi => ?_, fun i k hi hk => ?_⟩
  · rw [ins_get ha.le]
    split
    · exact h.ok _ _
    · split
      · exact hx
      · exact h.ok _ _
  · rw [ins_get ha.le, ins_get ha.le]
    have hle := ha.le
    by_cases h1 : i < a
    · rw [dif_pos h1]
      by_cases h2 : i + 1 < a
      · rw [dif_pos h2]; exact h.up _ _
      · rw [dif_neg h2, dif_pos (by omega)]; exact ha.lo _ _ h1
    · rw [dif_neg h1, dif_neg (by omega : ¬ i + 1 < a)]
      by_cases h2 : i = a
      · rw [dif_pos h2, dif_neg (by omega)]; subst h2; exact ha.hi _ _ (by omega)
      · rw [dif_neg h2, dif_neg (by omega)]
        have := h.up (i - 1) (by omega)
        simpa [show i - 1 + 1 = i by omega] using this
  · rw [ins_get ha.le, ins_get ha.le]
    have hle := ha.le
    by_cases h1 : i < a
    · rw [dif_pos h1, dif_pos (by omega)]; exact h.cl _ _ _ hk
    · rw [dif_neg h1]
      by_cases h2 : i = a
      · rw [dif_pos h2, dif_pos (by omega), clB_comm]; exact hc _ _
      · rw [dif_neg h2]
        by_cases h3 : k < a
        · rw [dif_pos h3]; exact h.cl _ _ _ (by omega)
        · rw [dif_neg h3]
          by_cases h4 : k = a
          · rw [dif_pos h4]; exact hc _ _
          · rw [dif_neg h4]; exact h.cl _ _ _ (by omega)
/-- a part of a licence -/
structure Part (a x : Lic) : Prop where
  lo : x.lo ≤ a.lo
  hi : a.hi ≤ x.hi
  px : a.x = x.x
  py : a.y = x.y
  pe : a.e = x.e
  pn : a.n = x.n
  fr : x.fr ≤ a.fr
  un : a.un ≤ x.un
theorem Part.cl {a x y : Lic} (h : Part a x) (hc : clB y x = false) : clB y a = false := by
  cases hb : clB y a with
  | false => rfl
  | true =>
    exfalso
    obtain ⟨h1, h2, h3, h4, h5, h6, h7, h8⟩ := h
    unfold clB at hb hc
    rw [h3, h4, h5, h6] at hb
    simp only [Bool.and_eq_true, decide_eq_true_eq] at hb
    obtain ⟨⟨⟨⟨b1, b2⟩, b3⟩, b4⟩, b5⟩ := hb
    rw [b3] at hc
    have c1 : decide (y.lo < x.hi) = true := by simp; omega
    have c2 : decide (x.lo < y.hi) = true := by simp; omega
    have c3 : decide (y.fr ≤ x.un) = true := by simp; omega
    have c4 : decide (x.fr ≤ y.un) = true := by simp; omega
    rw [c1, c2, c3, c4] at hc
    cases hc
/-- a licence made two -/
theorem hold_two {xs : List Lic} {m a : Nat} {A B : Lic} (h : HoldP xs) (hm : m < xs.length) (hid : A.id = xs[m].id) (hA : licB A = true) (hB : licB B = true) (pA : Part A xs[m]) (pB : Part B xs[m]) (hAB : clB A B = false)
    (ha : AtP (xs.set m A) B a) (hn : xs.length < 24) : HoldP (insL (xs.set m A) a B) := by
  have h1 : HoldP (xs.set m A) := (hold_set h hm A hid hA).2 fun j hj hne => pA.cl (h.clash hj hm hne)
  refine hold_ins h1 hB ha (fun j hj => ?_) (by simpa using hn)
  rw [List.getElem_set]
  split
  · exact hAB
  · rename_i hne
    have hj' : j < xs.length := by simpa using hj
    exact pB.cl (h.clash hj' hm (fun e => hne e.symm))
def wd (p : Lic → Bool) (l : Lic) : Int := if p l then l.hi - l.lo else 0
def sumN (p : Lic → Bool) (xs : List Lic) : Int := (xs.map (wd p)).foldr (· + ·) 0
theorem sumN_cons (p : Lic → Bool) (l : Lic) (xs : List Lic) : sumN p (l :: xs) = wd p l + sumN p xs := rfl
theorem sumN_app (p : Lic → Bool) : ∀ (xs ys : List Lic), sumN p (xs ++ ys) = sumN p xs + sumN p ys
  | [], ys => by simp [sumN]
  | x :: xs, ys => by rw [List.cons_append, sumN_cons, sumN_cons, sumN_app p xs ys]; omega
theorem wd_bd {p : Lic → Bool} {l : Lic} (h : licB l = true) : 0 ≤ wd p l ∧ wd p l ≤ 100000000 ∧ l.hi - l.lo ≤ 100000000 ∧ 0 ≤ l.hi - l.lo := by
  unfold licB inB at h
  simp only [Bool.and_eq_true, decide_eq_true_eq] at h
  unfold wd
  split <;> omega
theorem sumW_eq (p : Lic → Bool) : ∀ (xs : List Lic) (a : Int), (∀ l ∈ xs, licB l = true) → 0 ≤ a → a + 100000000 * (xs.length : Int) ≤ 9000000000000000000 → sumW p xs a = a + sumN p xs
  | [], a, _, _, _ => by simp [sumW, sumN]
  | l :: xs, a, h, h0, h1 => by
    have hb := wd_bd (p := p) (h l List.mem_cons_self)
    rw [List.length_cons] at h1
    push_cast at h1
    rw [sumN_cons]
    unfold sumW
    have e : (if p l = true then IntKind.i64.wrap (a + IntKind.i64.wrap (l.hi - l.lo)) else a) = a + wd p l := by
      unfold wd
      split
      · rw [IntWalk.i64_in (l.hi - l.lo) (by omega), IntWalk.i64_in _ (by omega)]
      · omega
    rw [e, sumW_eq p xs _ (fun y hy => h y (List.mem_cons_of_mem _ hy)) (by omega) (by omega)]
    omega
theorem HoldP.all {xs : List Lic} (h : HoldP xs) : ∀ l ∈ xs, licB l = true := fun l hl => by
  obtain ⟨i, hi, rfl⟩ := List.mem_iff_getElem.1 hl
  exact h.ok i hi
theorem HoldP.sumW {xs : List Lic} (h : HoldP xs) (p : Lic → Bool) : sumW p xs 0 = sumN p xs := by
  have := h.n
  rw [sumW_eq p xs 0 h.all (by omega) (by omega)]
  omega
theorem sumN_two (p : Lic → Bool) {xs : List Lic} {m a : Nat} (hm : m < xs.length) (A B : Lic) (ha : a ≤ (xs.set m A).length) (hw : wd p A + wd p B = wd p xs[m]) : sumN p (insL (xs.set m A) a B) = sumN p xs := by
  have e1 : sumN p (insL (xs.set m A) a B) = sumN p (xs.set m A) + wd p B := by
    unfold insL
    rw [sumN_app, sumN_cons]
    have := sumN_app p ((xs.set m A).take a) ((xs.set m A).drop a)
    rw [List.take_append_drop] at this
    omega
  have e2 : sumN p (xs.set m A) = sumN p (xs.take m) + (wd p A + sumN p (xs.drop (m + 1))) := by
    rw [List.set_eq_take_append_cons_drop, if_pos hm, sumN_app, sumN_cons]
  have e3 : sumN p xs = sumN p (xs.take m) + (wd p xs[m] + sumN p (xs.drop (m + 1))) := by
    conv => lhs; rw [← List.take_append_drop m xs, List.drop_eq_getElem_cons hm]
    rw [sumN_app, sumN_cons]
  omega
end Go.Proofs.Ytiificaolakgdaa.Li
