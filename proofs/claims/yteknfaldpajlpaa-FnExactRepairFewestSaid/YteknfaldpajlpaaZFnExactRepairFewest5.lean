/-
  What the law FnExactRepairFewest rests on, part 5.
-/
import Derived.Test.YteknfaldpajlpaaZFnExactRepairFewest4
namespace Go.Proofs.Yteknfaldpajlpaa.Nb
open Go Go.RowKit Go.Proofs.Yteknfaldpajlpaa.Aw Go.Proofs.Yteknfaldpajlpaa.In Go.Proofs.Yteknfaldpajlpaa.Il
set_option linter.unusedSimpArgs false
set_option linter.unusedVariables false
set_option linter.unusedSectionVars false
attribute [local irreducible] AW SQ Step RO RC DE Thn InB
theorem snd_of {ds ap : List (List Int)} {list frz : List Int} (hS : NbS ds) (hA : NbS ap) (h : prB ds ap = true) (h2 : stB ds list = true) (hf : frz.length ≤ 1048576) : Snd ds ap list frz := by
  simp only [prB, Bool.and_eq_true, decide_eq_true_eq, domsB, Bool.not_eq_true', List.any_eq_false, List.all_eq_true, List.mem_range] at h
  obtain ⟨⟨⟨⟨a1, a2⟩, a3⟩, a4⟩, a5⟩ := h
  simp only [stB, Bool.and_eq_true, decide_eq_true_eq, Bool.not_eq_true', List.any_eq_false] at h2
  obtain ⟨c1, c2⟩ := h2
  refine ⟨hS, hA, a2, a4, c1, fun i hi => ?_, fun d hd => ?_, fun x hx => ?_, hf⟩
  · have := a5 i hi
    simp only [rowB, Bool.and_eq_true, decide_eq_true_eq] at this
    exact this.1.1.1
  · have := a3 d hd
    have hd2 : domB d = true := by
      cases hx : domB d with
      | true => rfl
      | false => rw [hx] at this; exact absurd rfl this
    simp only [domB, Bool.and_eq_true, decide_eq_true_eq, Bool.not_eq_true', List.any_eq_false] at hd2
    have this := hd2
    refine ⟨this.1.1.2, fun x hx => ?_⟩
    have := this.2 x hx
    simpa [inB] using this
  · have := c2 x hx
    simpa [inB] using this
def ResE (item : Nat) (q q' : Bool × Rs) : Prop := q.1 = q'.1 ∧ q.2.1 = q'.2.1 ∧ q.2.2.take item = q'.2.2.take item ∧ (q.1 = true → q = q')
theorem ResE.refl {item : Nat} {q : Bool × Rs} : ResE item q q := ⟨rfl, rfl, rfl, fun _ => rfl⟩
theorem tryF_res {nxt : Int → Rs → Bool × Rs} {ap : List (List Int)} {item : Nat} {ch left : Int} {st st' : Rs} (h1 : st.1 = st'.1) (h2 : st.2.take item = st'.2.take item) : ResE item (tryF nxt ap item ch left st) (tryF nxt ap item ch left st') := by
  unfold tryF
  rw [h1, h2]
  split
  · exact ⟨rfl, h1, h2, fun h => by cases h⟩
  · split
    · exact ⟨rfl, h1, h2, fun h => by cases h⟩
    · split
      · exact ⟨rfl, rfl, h2, fun h => by cases h⟩
      · exact .refl
theorem domF_res {nxt : Int → Rs → Bool × Rs} {ap : List (List Int)} {item : Nat} {before left : Int} : ∀ (cs : List Int) (st st' : Rs), st.1 = st'.1 → st.2.take item = st'.2.take item → ResE item (domF nxt ap item before left cs st) (domF nxt ap item before left cs st')
  | [], st, st', h1, h2 => ⟨rfl, h1, h2, fun h => by cases h⟩
  | c :: cs, st, st', h1, h2 => by
    have ht := tryF_res (nxt := nxt) (ap := ap) (ch := c) (left := left - 1) h1 h2
    unfold domF
    split
    · exact domF_res cs st st' h1 h2
    · by_cases hc : (tryF nxt ap item c (left - 1) st).1 = true
      · rw [if_pos hc, if_pos (ht.1 ▸ hc)]; exact ht
      · rw [if_neg hc, if_neg (ht.1 ▸ hc)]; exact domF_res cs _ _ ht.2.1 ht.2.2.1
theorem fstF_res {nxt : Int → Rs → Bool × Rs} {ap : List (List Int)} {dom : List Int} {item : Nat} {before left : Int} {st st' : Rs} (h1 : st.1 = st'.1) (h2 : st.2.take item = st'.2.take item) : ResE item (fstF nxt ap dom item before left st) (fstF nxt ap dom item before left st') := by
  unfold fstF
  split
  · exact tryF_res h1 h2
  · exact ⟨rfl, h1, h2, fun h => by cases h⟩
theorem repF_res {ds ap : List (List Int)} {list frz : List Int} {left b : Int} {l l' : List Int} (h : list.length = 0 → l = l') : ResE 0 (repF ds ap list frz list.length left (b, l)) (repF ds ap list frz list.length left (b, l')) := by
  cases hn : list.length with
  | zero => rw [h hn]; exact .refl
  | succ r =>
    have e0 : list.length - (r + 1) = 0 := by omega
    rw [repF, repF, e0]
    have hf := fstF_res (nxt := repF ds ap list frz r) (ap := ap) (dom := ds.getD 0 []) (item := 0) (before := list.getD 0 0) (left := left) (st := (b, l)) (st' := (b, l')) rfl rfl
    by_cases hc : (fstF (repF ds ap list frz r) ap (ds.getD 0 []) 0 (list.getD 0 0) left (b, l)).1 = true
    · have hc' := hc
      rw [hf.1] at hc'
      rw [if_pos hc, if_pos hc']; exact hf
    · have hc' := hc
      rw [hf.1] at hc'
      rw [if_neg hc, if_neg hc']
      split
      · exact ⟨rfl, hf.2.1, hf.2.2.1, fun h => by cases h⟩
      · exact domF_res _ _ _ hf.2.1 hf.2.2.1
end Go.Proofs.Yteknfaldpajlpaa.Nb

namespace Go.Proofs.Yteknfaldpajlpaa.Nb
open Go Go.RowKit Go.Proofs.Yteknfaldpajlpaa.Aw Go.Proofs.Yteknfaldpajlpaa.In Go.Proofs.Yteknfaldpajlpaa.Il
set_option linter.unusedSimpArgs false
set_option linter.unusedVariables false
set_option linter.unusedSectionVars false
attribute [local irreducible] AW SQ Step RO RC DE Thn InB
section
variable (ds ap : List (List Int)) (list frz : List Int)
def topF : Nat → Nat → Rs → Bool × Rs
  | 0, _, st => (false, st)
  | k + 1, m, st => if (repF ds ap list frz list.length (m : Int) st).1 = true then repF ds ap list frz list.length (m : Int) st else if (repF ds ap list frz list.length (m : Int) st).2.1 < 0 then repF ds ap list frz list.length (m : Int) st else topF k (m + 1) (repF ds ap list frz list.length (m : Int) st).2
def topS : Nat → Nat → Int → Bool × Rs
  | 0, _, b => (false, (b, []))
  | k + 1, m, b => if (repF ds ap list frz list.length (m : Int) (b, [])).1 = true then repF ds ap list frz list.length (m : Int) (b, []) else if (repF ds ap list frz list.length (m : Int) (b, [])).2.1 < 0 then repF ds ap list frz list.length (m : Int) (b, []) else topS k (m + 1) (repF ds ap list frz list.length (m : Int) (b, [])).2.1
theorem top_eq (h : list.length ≠ 0) : ∀ (k m : Nat) (b : Int) (l : List Int), (topF ds ap list frz k m (b, l)).1 = (topS ds ap list frz k m b).1 ∧ (topF ds ap list frz k m (b, l)).2.1 = (topS ds ap list frz k m b).2.1 ∧ ((topF ds ap list frz k m (b, l)).1 = true → topF ds ap list frz k m (b, l) = topS ds ap list frz k m b)
  | 0, m, b, l => ⟨rfl, rfl, fun h => by cases h⟩
  | k + 1, m, b, l => by
    obtain ⟨g1, g2, _, g3⟩ := repF_res (ds := ds) (ap := ap) (list := list) (frz := frz) (left := (m : Int)) (b := b) (l := l) (l' := []) fun e => absurd e h
    unfold topF topS
    rw [← g1, ← g2]
    split
    · rename_i c; exact ⟨g1, g2, fun _ => g3 c⟩
    · split
      · exact ⟨g1, g2, fun c => g3 c⟩
      · have := top_eq h k (m + 1) (repF ds ap list frz list.length (m : Int) (b, l)).2.1 (repF ds ap list frz list.length (m : Int) (b, l)).2.2
        exact this
end
def sh1 : Nat → Nat := fun z => z + 1
def frB (list frz : List Int) : Bool := incB frz && !frz.any fun x => !inB x 0 ((list.length : Int) - 1)
section
variable (ds ap : List (List Int)) (list frz : List Int) (hS : NbS ds) (hA : NbS ap) (hn : list.length ≤ 1048576) (hf : frz.length ≤ 1048576)
include hS hA hn hf
set_option maxHeartbeats 4000000 in
theorem Rep_bad_ro (bu : Int) (h : prB ds ap = false) (k : Nat) : RO Try.prog 30 [.agg [.dsl 1 (nbL ds), .dsl 1 (nbL ap)], .dsl 1 (list.map inL), .dsl 1 (frz.map inL), .v (.int .i64 bu)] k (.tup [.v (.slice none 0 0), .v (.int .i64 0), .v (.int .i64 1)]) [] k := by
  have hV := stateCode_ro ds ap list hS hA hn
  rw [if_pos h] at hV
  have b1 : ((1 : Int) == 1) = true := rfl
  refine RO.ofp Try.func30 Try.ntmps30 rfl (goFn_of Try.func30 rfl (by kernel_rfl)) rfl rfl rfl ?_
  ((repeat' (first
    | (show SQ _ _ _ _ _ _ _ _; first | apply sq_nil | (apply q_move; exact rfl; exact rfl) | (apply q_assign; exact rfl; exact rfl) | (apply q_eql; exact rfl; exact rfl; exact rfl))
    | (show SQ _ _ _ _ _ _ _ _; (first | (apply q_ldap; exact rfl; exact rfl; exact (ty rfl); exact rfl; exact rfl; exact (by first | rfl | assumption | ((try simp only [Nat.zero_add]); refine List.getElem?_set_self ?_; (try simp only [List.length_set]); assumption)); exact rfl) | (apply q_box; exact rfl; exact rfl; exact rfl) | (apply q_callU; exact rfl; exact rfl; exact rfl; exact FzL.of rfl; exact hV _)); (try simp only [put, rowsOf, plR, List.all_cons, selE, ovr, setH, del, cellsA, splice, isV, List.nil_append, List.cons_append, List.map_cons, List.map_nil, List.length_cons, List.length_nil, List.set_cons_zero, List.set_cons_succ, List.take_succ_cons, List.take_zero, List.take_nil, List.drop_succ_cons, List.drop_zero, List.drop_nil, List.append_nil, List.all_cons, List.all_nil, Bool.and_true, Bool.true_and, Bool.and_false, Bool.false_and, Nat.reduceAdd, Nat.zero_add, Nat.add_zero, Nat.reduceEqDiff, if_true, if_false, reduceIte]))
    | (show AW _ _ _ _ _ _ _ _; first | refine aw_region ?_ | (refine aw_seqk ?_; intro K hK) | refine aw_block ?_ | (apply aw_cond_t; exact rfl; exact rfl) | refine aw_ret ?_)
    | refine thn_n ?_
    | (refine hK _ _ _ ?_; clear hK K)
    | refine thn_r ?_
    | refine inb_r ?_)); all_goals (repeat (clear hK K)))
  all_goals refine fin_r (fin_p (.r3 _ _ _ _ _ _ (.tmp _ _ rfl) (.tmp _ _ rfl) (.tmp _ _ rfl)) ?_ rfl rfl rfl)
  all_goals rfl
set_option maxHeartbeats 4000000 in
theorem Rep_rng_ro (bu : Int) (h : prB ds ap = true) (h2 : inB bu 1 20000 = false) (k : Nat) : RO Try.prog 30 [.agg [.dsl 1 (nbL ds), .dsl 1 (nbL ap)], .dsl 1 (list.map inL), .dsl 1 (frz.map inL), .v (.int .i64 bu)] k (.tup [.v (.slice none 0 0), .v (.int .i64 0), .v (.int .i64 2)]) [] k := by
  have hV := stateCode_ro ds ap list hS hA hn
  rw [if_neg (by rw [h]; simp)] at hV
  have hB := budgetValid_ro ds hS bu
  have b2 : (!inB bu 1 20000) = true := by rw [h2]; rfl
  have b1 : ((if stB ds list = false then (6 : Int) else 0) == 1) = false := by split <;> rfl
  refine RO.ofp Try.func30 Try.ntmps30 rfl (goFn_of Try.func30 rfl (by kernel_rfl)) rfl rfl rfl ?_
  ((repeat' (first
    | (show SQ _ _ _ _ _ _ _ _; first | apply sq_nil | (apply q_move; exact rfl; exact rfl) | (apply q_assign; exact rfl; exact rfl) | (apply q_not; exact rfl; exact rfl) | (apply q_eql; exact rfl; exact rfl; exact rfl))
    | (show SQ _ _ _ _ _ _ _ _; (first | (apply q_ldap; exact rfl; exact rfl; exact (ty rfl); exact rfl; exact rfl; exact (by first | rfl | assumption | ((try simp only [Nat.zero_add]); refine List.getElem?_set_self ?_; (try simp only [List.length_set]); assumption)); exact rfl) | (apply q_box; exact rfl; exact rfl; exact rfl) | (apply q_callU; exact rfl; exact rfl; exact rfl; exact FzL.of rfl; exact hV _) | (apply q_callU; exact rfl; exact rfl; exact rfl; exact FzL.of rfl; exact hB _)); (try simp only [put, rowsOf, plR, List.all_cons, selE, ovr, setH, del, cellsA, splice, isV, List.nil_append, List.cons_append, List.map_cons, List.map_nil, List.length_cons, List.length_nil, List.set_cons_zero, List.set_cons_succ, List.take_succ_cons, List.take_zero, List.take_nil, List.drop_succ_cons, List.drop_zero, List.drop_nil, List.append_nil, List.all_cons, List.all_nil, Bool.and_true, Bool.true_and, Bool.and_false, Bool.false_and, Nat.reduceAdd, Nat.zero_add, Nat.add_zero, Nat.reduceEqDiff, if_true, if_false, reduceIte]))
    | (show AW _ _ _ _ _ _ _ _; first | refine aw_region ?_ | (refine aw_seqk ?_; intro K hK) | refine aw_block ?_ | (apply aw_cond_t; exact rfl; exact (by assumption)) | (apply aw_cond_f; exact rfl; exact (by assumption)) | refine aw_ret ?_)
    | refine thn_n ?_
    | (refine hK _ _ _ ?_; clear hK K)
    | refine thn_r ?_
    | refine inb_r ?_)); all_goals (repeat (clear hK K)))
  all_goals refine fin_r (fin_p (.r3 _ _ _ _ _ _ (.tmp _ _ rfl) (.tmp _ _ rfl) (.tmp _ _ rfl)) ?_ rfl rfl rfl)
  all_goals rfl
set_option maxHeartbeats 4000000 in
theorem Rep_st_ro (bu : Int) (h : prB ds ap = true) (h2 : inB bu 1 20000 = true) (h3 : stB ds list = false) (k : Nat) : RO Try.prog 30 [.agg [.dsl 1 (nbL ds), .dsl 1 (nbL ap)], .dsl 1 (list.map inL), .dsl 1 (frz.map inL), .v (.int .i64 bu)] k (.tup [.v (.slice none 0 0), .v (.int .i64 0), .v (.int .i64 6)]) [] k := by
  have hV := stateCode_ro ds ap list hS hA hn
  rw [if_neg (by rw [h]; simp), if_pos h3] at hV
  have hB := budgetValid_ro ds hS bu
  have b2 : (!inB bu 1 20000) = false := by rw [h2]; rfl
  have b1 : ((6 : Int) == 1) = false := rfl
  have b3 : ((6 : Int) != 0) = true := rfl
  refine RO.ofp Try.func30 Try.ntmps30 rfl (goFn_of Try.func30 rfl (by kernel_rfl)) rfl rfl rfl ?_
  ((repeat' (first
    | (show SQ _ _ _ _ _ _ _ _; first | apply sq_nil | (apply q_move; exact rfl; exact rfl) | (apply q_assign; exact rfl; exact rfl) | (apply q_not; exact rfl; exact rfl) | (apply q_eql; exact rfl; exact rfl; exact rfl) | (apply q_neq; exact rfl; exact rfl; exact rfl))
    | (show SQ _ _ _ _ _ _ _ _; (first | (apply q_ldap; exact rfl; exact rfl; exact (ty rfl); exact rfl; exact rfl; exact (by first | rfl | assumption | ((try simp only [Nat.zero_add]); refine List.getElem?_set_self ?_; (try simp only [List.length_set]); assumption)); exact rfl) | (apply q_box; exact rfl; exact rfl; exact rfl) | (apply q_callU; exact rfl; exact rfl; exact rfl; exact FzL.of rfl; exact hV _) | (apply q_callU; exact rfl; exact rfl; exact rfl; exact FzL.of rfl; exact hB _)); (try simp only [put, rowsOf, plR, List.all_cons, selE, ovr, setH, del, cellsA, splice, isV, List.nil_append, List.cons_append, List.map_cons, List.map_nil, List.length_cons, List.length_nil, List.set_cons_zero, List.set_cons_succ, List.take_succ_cons, List.take_zero, List.take_nil, List.drop_succ_cons, List.drop_zero, List.drop_nil, List.append_nil, List.all_cons, List.all_nil, Bool.and_true, Bool.true_and, Bool.and_false, Bool.false_and, Nat.reduceAdd, Nat.zero_add, Nat.add_zero, Nat.reduceEqDiff, if_true, if_false, reduceIte]))
    | (show AW _ _ _ _ _ _ _ _; first | refine aw_region ?_ | (refine aw_seqk ?_; intro K hK) | refine aw_block ?_ | (apply aw_cond_t; exact rfl; exact rfl) | (apply aw_cond_f; exact rfl; exact rfl) | (apply aw_cond_f; exact rfl; exact (by assumption)) | refine aw_ret ?_)
    | refine thn_n ?_
    | (refine hK _ _ _ ?_; clear hK K)
    | refine thn_r ?_
    | refine inb_r ?_)); all_goals (repeat (clear hK K)))
  all_goals refine fin_r (fin_p (.r3 _ _ _ _ _ _ (.tmp _ _ rfl) (.tmp _ _ rfl) (.tmp _ _ rfl)) ?_ rfl rfl rfl)
  all_goals rfl
set_option maxHeartbeats 4000000 in
theorem Rep_frz_ro (bu : Int) (h : prB ds ap = true) (h2 : inB bu 1 20000 = true) (h3 : stB ds list = true) (h4 : frB list frz = false) (k : Nat) : RO Try.prog 30 [.agg [.dsl 1 (nbL ds), .dsl 1 (nbL ap)], .dsl 1 (list.map inL), .dsl 1 (frz.map inL), .v (.int .i64 bu)] k (.tup [.v (.slice none 0 0), .v (.int .i64 0), .v (.int .i64 6)]) [] k := by
  have hml : (list.map inL).length = list.length := List.length_map _
  have hV := stateCode_ro ds ap list hS hA hn
  rw [if_neg (by rw [h]; simp), if_neg (by rw [h3]; simp)] at hV
  have hB := budgetValid_ro ds hS bu
  have hI := increasing_ro frz hf
  have hW := allWithin_ro frz (frz.map inL) 0 (IntKind.i64.wrap (((list.map inL).length : Int) - 1)) rfl hf
  have hw : IntKind.i64.wrap (((list.map inL).length : Int) - 1) = (list.length : Int) - 1 := by rw [hml, IntWalk.i64_in _ (by omega)]
  have h4' : (incB frz && !frz.any fun x => !inB x 0 (IntKind.i64.wrap (((list.map inL).length : Int) - 1))) = false := by rw [hw]; exact h4
  generalize (!frz.any fun x => !inB x 0 (IntKind.i64.wrap (((list.map inL).length : Int) - 1))) = u2 at *
  generalize incB frz = u1 at *
  have b2 : (!inB bu 1 20000) = false := by rw [h2]; rfl
  have b1 : ((0 : Int) == 1) = false := rfl
  have b3 : ((0 : Int) != 0) = false := rfl
  refine RO.ofp Try.func30 Try.ntmps30 rfl (goFn_of Try.func30 rfl (by kernel_rfl)) rfl rfl rfl ?_
  cases u1 with
  | false =>
    ((repeat' (first
    | (show SQ _ _ _ _ _ _ _ _; first | apply sq_nil | (apply q_move; exact rfl; exact rfl) | (apply q_assign; exact rfl; exact rfl) | (apply q_pick_t; exact rfl; exact rfl; exact rfl; exact (by first | assumption | exact rfl)) | (apply q_not; exact rfl; exact rfl) | (apply q_eql; exact rfl; exact rfl; exact rfl) | (apply q_neq; exact rfl; exact rfl; exact rfl) | (apply q_s; exact rfl; exact rfl; exact rfl; exact rfl; exact rfl))
    | (show SQ _ _ _ _ _ _ _ _; (first | (apply q_ldap; exact rfl; exact rfl; exact (ty rfl); exact rfl; exact rfl; exact (by first | rfl | assumption | ((try simp only [Nat.zero_add]); refine List.getElem?_set_self ?_; (try simp only [List.length_set]); assumption)); exact rfl) | (apply q_box; exact rfl; exact rfl; exact rfl) | (apply q_callU; exact rfl; exact rfl; exact rfl; exact FzL.of rfl; exact hV _) | (apply q_callU; exact rfl; exact rfl; exact rfl; exact FzL.of rfl; exact hB _) | (apply q_callU; exact rfl; exact rfl; exact rfl; exact FzL.of rfl; exact hI _)); (try simp only [put, rowsOf, plR, List.all_cons, selE, ovr, setH, del, cellsA, splice, isV, List.nil_append, List.cons_append, List.map_cons, List.map_nil, List.length_cons, List.length_nil, List.set_cons_zero, List.set_cons_succ, List.take_succ_cons, List.take_zero, List.take_nil, List.drop_succ_cons, List.drop_zero, List.drop_nil, List.append_nil, List.all_cons, List.all_nil, Bool.and_true, Bool.true_and, Bool.and_false, Bool.false_and, Nat.reduceAdd, Nat.zero_add, Nat.add_zero, Nat.reduceEqDiff, if_true, if_false, reduceIte]))
    | (show AW _ _ _ _ _ _ _ _; first | refine aw_region ?_ | (refine aw_seqk ?_; intro K hK) | refine aw_block ?_ | (apply aw_cond_t; exact rfl; exact rfl) | (apply aw_cond_f; exact rfl; exact rfl) | (apply aw_cond_f; exact rfl; exact (by assumption)) | refine aw_ret ?_)
    | refine thn_n ?_
    | (refine hK _ _ _ ?_; clear hK K)
    | refine thn_r ?_
    | refine inb_r ?_)); all_goals (repeat (clear hK K)))
    all_goals refine fin_r (fin_p (.r3 _ _ _ _ _ _ (.tmp _ _ rfl) (.tmp _ _ rfl) (.tmp _ _ rfl)) ?_ rfl rfl rfl)
    all_goals rfl
  | true =>
    cases u2 with
    | true => cases h4'
    | false =>
      ((repeat' (first
    | (show SQ _ _ _ _ _ _ _ _; first | apply sq_nil | (apply q_move; exact rfl; exact rfl) | (apply q_assign; exact rfl; exact rfl) | (apply q_pick_f; exact rfl; exact rfl; exact rfl; exact (by first | assumption | exact rfl)) | (apply q_not; exact rfl; exact rfl) | (apply q_lend; exact rfl; exact rfl; exact (ty rfl); exact rfl) | (apply q_sub; exact rfl; exact rfl; exact rfl) | (apply q_eql; exact rfl; exact rfl; exact rfl) | (apply q_neq; exact rfl; exact rfl; exact rfl) | (apply q_g; exact rfl; exact rfl; exact rfl; exact (by assumption)))
    | (show SQ _ _ _ _ _ _ _ _; (first | (apply q_ldap; exact rfl; exact rfl; exact (ty rfl); exact rfl; exact rfl; exact (by first | rfl | assumption | ((try simp only [Nat.zero_add]); refine List.getElem?_set_self ?_; (try simp only [List.length_set]); assumption)); exact rfl) | (apply q_box; exact rfl; exact rfl; exact rfl) | (apply q_callU; exact rfl; exact rfl; exact rfl; exact FzL.of rfl; exact hV _) | (apply q_callU; exact rfl; exact rfl; exact rfl; exact FzL.of rfl; exact hB _) | (apply q_callU; exact rfl; exact rfl; exact rfl; exact FzL.of rfl; exact hI _) | (apply q_callU; exact rfl; exact rfl; exact rfl; exact FzL.of rfl; exact hW _)); (try simp only [put, rowsOf, plR, List.all_cons, selE, ovr, setH, del, cellsA, splice, isV, List.nil_append, List.cons_append, List.map_cons, List.map_nil, List.length_cons, List.length_nil, List.set_cons_zero, List.set_cons_succ, List.take_succ_cons, List.take_zero, List.take_nil, List.drop_succ_cons, List.drop_zero, List.drop_nil, List.append_nil, List.all_cons, List.all_nil, Bool.and_true, Bool.true_and, Bool.and_false, Bool.false_and, Nat.reduceAdd, Nat.zero_add, Nat.add_zero, Nat.reduceEqDiff, if_true, if_false, reduceIte]))
    | (show AW _ _ _ _ _ _ _ _; first | refine aw_region ?_ | (refine aw_seqk ?_; intro K hK) | refine aw_block ?_ | (apply aw_cond_t; exact rfl; exact rfl) | (apply aw_cond_f; exact rfl; exact rfl) | (apply aw_cond_f; exact rfl; exact (by assumption)) | refine aw_ret ?_)
    | refine thn_n ?_
    | (refine hK _ _ _ ?_; clear hK K)
    | refine thn_r ?_
    | refine inb_r ?_)); all_goals (repeat (clear hK K)))
      all_goals refine fin_r (fin_p (.r3 _ _ _ _ _ _ (.tmp _ _ rfl) (.tmp _ _ rfl) (.tmp _ _ rfl)) ?_ rfl rfl rfl)
      all_goals rfl
theorem Rep_okR (bu : Int) (h : prB ds ap = true) (h2 : inB bu 1 20000 = true) (h3 : stB ds list = true) (h4 : frB list frz = true) (hv : (topF ds ap list frz (list.length + 1) 0 (bu, [])).1 = true) (k : Nat) : RO Try.prog 30 [.agg [.dsl 1 (nbL ds), .dsl 1 (nbL ap)], .dsl 1 (list.map inL), .dsl 1 (frz.map inL), .v (.int .i64 bu)] k (.tup [.sl k 0 list.length, .v (.int .i64 (chgN (topF ds ap list frz (list.length + 1) 0 (bu, [])).2.2 list list.length)), .v (.int .i64 0)]) [(k, ⟨2, 1, true, (topF ds ap list frz (list.length + 1) 0 (bu, [])).2.2.map inL⟩)] (k + 1) := by
  have hml : (list.map inL).length = list.length := List.length_map _
  have hP := snd_of hS hA h h3 hf
  have hN := hP.n
  have hL := hP.l
  have hV := stateCode_ro ds ap list hS hA hn
  rw [if_neg (by rw [h]; simp), if_neg (by rw [h3]; simp)] at hV
  have hB := budgetValid_ro ds hS bu
  have hI := increasing_ro frz hf
  have hW := allWithin_ro frz (frz.map inL) 0 (IntKind.i64.wrap (((list.map inL).length : Int) - 1)) rfl hf
  have hw : IntKind.i64.wrap (((list.map inL).length : Int) - 1) = (list.length : Int) - 1 := by rw [hml, IntWalk.i64_in _ (by omega)]
  obtain ⟨h41, h42⟩ : incB frz = true ∧ (!frz.any fun x => !inB x 0 (IntKind.i64.wrap (((list.map inL).length : Int) - 1))) = true := by rw [hw]; simpa only [frB, Bool.and_eq_true] using h4
  rw [h41] at hI
  rw [h42] at hW
  have b2 : (!inB bu 1 20000) = false := by rw [h2]; rfl
  have b1 : ((0 : Int) == 1) = false := rfl
  have b3 : ((0 : Int) != 0) = false := rfl
  have hbu : 1 ≤ bu ∧ bu ≤ 20000 := by simpa [inB] using h2
  have hw1 : IntKind.i64.wrap (((list.map inL).length : Int) + 1) = ((list.length + 1 : Nat) : Int) := by rw [hml, IntWalk.i64_in _ (by omega)]; omega
  generalize hQQ : topF ds ap list frz (list.length + 1) 0 (bu, []) = Q at *
  refine RO.ofm (.tup [.sl 0 0 list.length, .v (.int .i64 (chgN Q.2.2 list list.length)), .v (.int .i64 0)]) ([(0, ⟨2, 1, true, Q.2.2.map inL⟩)]) 1 Try.func30 Try.ntmps30 rfl (goFn_of Try.func30 rfl (by kernel_rfl)) rfl rfl (by simp [renA, renL]) (by simp [shH, renB]) rfl ?_
  ((repeat' (first
    | (show SQ _ _ _ _ _ _ _ _; first | apply sq_nil | (apply q_move; exact rfl; exact rfl) | (apply q_assign; exact rfl; exact rfl) | (apply q_pick_f; exact rfl; exact rfl; exact rfl; exact (by first | assumption | exact rfl)) | (apply q_not; exact rfl; exact rfl) | (apply q_lend; exact rfl; exact rfl; exact (ty rfl); exact rfl) | (apply q_add; exact rfl; exact rfl; exact rfl) | (apply q_sub; exact rfl; exact rfl; exact rfl) | (apply q_eql; exact rfl; exact rfl; exact rfl) | (apply q_neq; exact rfl; exact rfl; exact rfl) | (apply q_build; exact rfl; exact (ty rfl); exact rfl; exact rfl; exact rfl) | (apply q_g; exact rfl; exact rfl; exact rfl; exact (by assumption)))
    | (show SQ _ _ _ _ _ _ _ _; (first | (apply q_ldap; exact rfl; exact rfl; exact (ty rfl); exact rfl; exact rfl; exact (by first | rfl | assumption | ((try simp only [Nat.zero_add]); refine List.getElem?_set_self ?_; (try simp only [List.length_set]); assumption)); exact rfl) | (apply q_box; exact rfl; exact rfl; exact rfl) | (apply q_alloc; exact rfl; exact (ty rfl); exact rfl; exact rfl) | (apply q_store; exact rfl; exact rfl; exact (ty rfl); exact rfl; exact (by first | rfl | assumption | ((try simp only [Nat.zero_add]); refine List.getElem?_set_self ?_; (try simp only [List.length_set]); assumption)); exact rfl; exact rfl; exact rfl) | (apply q_callU; exact rfl; exact rfl; exact rfl; exact FzL.of rfl; exact hV _) | (apply q_callU; exact rfl; exact rfl; exact rfl; exact FzL.of rfl; exact hB _) | (apply q_callU; exact rfl; exact rfl; exact rfl; exact FzL.of rfl; exact hI _) | (apply q_callU; exact rfl; exact rfl; exact rfl; exact FzL.of rfl; exact hW _)); (try simp only [put, rowsOf, plR, List.all_cons, selE, ovr, setH, del, cellsA, splice, isV, List.nil_append, List.cons_append, List.map_cons, List.map_nil, List.length_cons, List.length_nil, List.set_cons_zero, List.set_cons_succ, List.take_succ_cons, List.take_zero, List.take_nil, List.drop_succ_cons, List.drop_zero, List.drop_nil, List.append_nil, List.all_cons, List.all_nil, Bool.and_true, Bool.true_and, Bool.and_false, Bool.false_and, Nat.reduceAdd, Nat.zero_add, Nat.add_zero, Nat.reduceEqDiff, if_true, if_false, reduceIte]))
    | (show AW _ _ _ _ _ _ _ _; first | refine aw_region ?_ | (refine aw_seqk ?_; intro K hK) | refine aw_block ?_ | (apply aw_cond_f; exact rfl; exact rfl) | (apply aw_cond_f; exact rfl; exact (by assumption)) | refine aw_skip ?_)
    | refine thn_n ?_
    | (refine hK _ _ _ ?_; clear hK K)
    | refine inb_n ?_)); all_goals (repeat (clear hK K)))
  refine aw_nilB 1 0 5 2 1 rfl rfl rfl rfl rfl ?_
  refine aw_loop (ρ := sh1) (ι := Nat × Rs) (fun s => ([(49, .v (.int .i64 (s.1 : Int))), (48, .v (.int .i64 ((list.length + 1 : Nat) : Int))), (12, .ptr 0 0 0), (1, .dsl 1 (list.map inL))],
      [(0, ⟨92, 6, false, [[.dsl 1 (nbL ds), .dsl 1 (nbL ap), .dsl 1 (list.map inL), .dsl 1 (frz.map inL), .v (.int .i64 s.2.1), .sl 1 0 0]]⟩), (1, ⟨2, 1, true, s.2.2.map inL⟩)], 2))
    (fun s => s.1 ≤ list.length + 1 ∧ 0 ≤ s.2.1 ∧ s.2.1 ≤ 20000 ∧ topF ds ap list frz (list.length + 1 - s.1) s.1 s.2 = Q) (fun s => list.length + 1 - s.1) (0, (bu, [])) ⟨Nat.zero_le _, by dsimp only; omega, by dsimp only; omega, hQQ⟩ ⟨by (repeat (refine ⟨by first | exact lk_i rfl rfl | exact lk_i rfl (by (try dsimp only); first | rfl | omega | (rw [IntWalk.i64_in _ (by omega)]; first | rfl | omega | (push_cast; omega)) | (simp; done) | (simp; omega)) | exact lk_d rfl rfl | exact lk_r rfl rfl rfl, ?_⟩)); exact trivial, by (repeat (refine ⟨by first | exact ⟨rfl, rfl, rfl⟩, ?_⟩)); exact trivial, by rfl, by exact pin_0⟩ ?_
  rintro ⟨m, b2, bf⟩ ⟨hm, s0, s1, hg⟩
  dsimp only at hm s0 s1 hg
  by_cases c1 : m < list.length + 1
  · have d1 : decide ((m : Int) < ((list.length + 1 : Nat) : Int)) = true := by rw [decide_eq_true_eq]; omega
    have hw : IntKind.i64.wrap ((m : Int) + 1) = ((m + 1 : Nat) : Int) := by rw [IntWalk.i64_in _ (by omega)]; omega
    have hX := extend_rc ds ap list frz hP list.length (m : Int) (b2, bf) (Nat.le_refl _) (by omega) (by omega) s0 s1 (by omega) (fun e => by
      have := h; rw [hL] at e
      simp only [prB, domsB, Bool.and_eq_true, decide_eq_true_eq] at this; omega) (by rw [Nat.sub_self]; simp) 0 1 (by decide)
    have hk := repF_keep (ds := ds) (ap := ap) (list := list) (frz := frz) list.length (m : Int) (b2, bf) (Nat.le_refl _) s0 (by omega) (fun e => by
      have := h; rw [hL] at e
      simp only [prB, domsB, Bool.and_eq_true, decide_eq_true_eq] at this; omega)
    rw [Nat.sub_self] at hX hk
    unfold rsR at hX
    rw [show list.length + 1 - m = (list.length + 1 - (m + 1)) + 1 by omega, topF] at hg
    generalize repF ds ap list frz list.length (m : Int) (b2, bf) = q at *
    obtain ⟨qo, qb, qf⟩ := q
    have kb := hk.bud
    have kl := hk.lo
    have ko := hk.ok
    dsimp only at hX kb kl hg ko
    have hqm : (qf.map inL).length = qf.length := List.length_map _
    cases qo with
    | true =>
      rw [if_pos rfl] at hg hX
      obtain ⟨kn, kz⟩ := ko rfl
      have hCh := ChangesBetween_ro qf list kn (by omega)
      rw [kn] at hCh
      have hdt : ((qf.map inL).drop 0).take list.length = qf.map inL := by rw [List.drop_zero, List.take_of_length_le (by omega)]
      ((repeat' (first
    | (show SQ _ _ _ _ _ _ _ _; first | apply sq_nil | (apply q_move; exact rfl; exact rfl) | (apply q_assign; exact rfl; exact rfl) | (apply q_lss; exact rfl; exact rfl; exact rfl))
    | (show SQ _ _ _ _ _ _ _ _; (first | (apply q_callC; exact rfl; exact rfl; exact rfl; exact hX _; (focus ((repeat (first | exact trivial | refine ⟨by first | exact rfl | assumption, ?_⟩)); done)); skip)); (try simp only [put, rowsOf, plR, List.all_cons, selE, ovr, setH, del, cellsA, splice, isV, List.nil_append, List.cons_append, List.map_cons, List.map_nil, List.length_cons, List.length_nil, List.set_cons_zero, List.set_cons_succ, List.take_succ_cons, List.take_zero, List.take_nil, List.drop_succ_cons, List.drop_zero, List.drop_nil, List.append_nil, List.all_cons, List.all_nil, Bool.and_true, Bool.true_and, Bool.and_false, Bool.false_and, Nat.reduceAdd, Nat.zero_add, Nat.add_zero, Nat.reduceEqDiff, if_true, if_false, reduceIte]))
    | (show DE _ _ _ _ _ _ _ _ _ _ _ _; first | (apply e_move; exact rfl; exact rfl; exact rfl) | (apply e_assign; exact rfl; exact rfl; exact rfl) | (apply e_fieldAddr; exact rfl; exact rfl; exact (ty rfl); exact rfl; exact rfl; exact rfl; exact rfl; exact rfl) | (apply e_ld1p; exact rfl; exact rfl; exact (ty rfl); exact rfl; exact rfl; exact (by first | rfl | assumption | ((try simp only [Nat.zero_add]); refine List.getElem?_set_self ?_; (try simp only [List.length_set]); assumption)); exact rfl; exact rfl))
    | (show DE _ _ _ _ _ _ _ _ _ _ _ _; (first | (apply dr_nil; exact trivial) | (apply e_callU; exact rfl; exact rfl; exact rfl; rotate_left; exact hCh _; exact rfl; rotate_right; focus ((repeat' (first | exact FzL.nil | exact (by assumption : FzC _) _ | refine FzL.cons ?_ ?_ | exact Fz.of rfl | exact Fz.nil | exact Fz.emp | (apply Fz.fnC; assumption) | (apply Fz.sl2; exact rfl; exact (by first | omega | (simp; done) | (simp; omega)); first | exact rfl | exact dt_full (by first | omega | (simp; done) | (simp; omega)) | assumption) | apply Fz.agg | (apply Fz.ptrL; exact rfl; first | exact rfl | assumption) | apply Fz.fnL)); done))); (try simp only [put, rowsOf, plR, List.all_cons, selE, ovr, setH, del, cellsA, splice, isV, List.nil_append, List.cons_append, List.map_cons, List.map_nil, List.length_cons, List.length_nil, List.set_cons_zero, List.set_cons_succ, List.take_succ_cons, List.take_zero, List.take_nil, List.drop_succ_cons, List.drop_zero, List.drop_nil, List.append_nil, List.all_cons, List.all_nil, Bool.and_true, Bool.true_and, Bool.and_false, Bool.false_and, Nat.reduceAdd, Nat.zero_add, Nat.add_zero, Nat.reduceEqDiff, if_true, if_false, reduceIte]))
    | (show AW _ _ _ _ _ _ _ _; first | refine aw_region ?_ | (refine aw_seqk ?_; intro K hK) | refine aw_block ?_ | (apply aw_cond_t; exact rfl; exact rfl) | (apply aw_cond_t; exact rfl; exact (by assumption)) | refine aw_ret ?_ | refine aw_skip ?_ | refine aw_drawE (id := 15) [0, 1, 0, 4, 0, 28, 63, 127, 255] [0, 1, 0, 1, 0, 1, 0, 0, 0] mixed (by kernel_rfl) ?_)
    | refine thn_n ?_
    | (refine hK _ _ _ ?_; clear hK K)
    | refine thn_r ?_
    | refine inb_r ?_)); all_goals (repeat (clear hK K)))
      all_goals (subst hg; exact fin_r ⟨⟨_, mv 0 2, .r3 _ _ _ _ _ _ (.tmp _ _ rfl) (.tmp _ _ rfl) (.tmp _ _ rfl), rfl, ⟨⟨rfl, rfl, rfl⟩, trivial⟩, rfl⟩, rfl, rfl, rfl⟩)
    | false =>
      rw [if_neg (by simp)] at hg hX
      by_cases c4 : qb < 0
      · have d4 : decide (qb < 0) = true := by simpa using c4
        rw [if_pos c4] at hg
        ((repeat' (first
    | (show SQ _ _ _ _ _ _ _ _; first | apply sq_nil | (apply q_move; exact rfl; exact rfl) | (apply q_assign; exact rfl; exact rfl) | (apply q_fieldAddr; exact rfl; exact rfl; exact (ty rfl); exact rfl; exact rfl; exact rfl; exact rfl) | (apply q_lss; exact rfl; exact rfl; exact rfl) | (apply q_ld1p; exact rfl; exact rfl; exact (ty rfl); exact rfl; exact rfl; exact (by first | rfl | assumption | ((try simp only [Nat.zero_add]); refine List.getElem?_set_self ?_; (try simp only [List.length_set]); assumption)); exact rfl))
    | (show SQ _ _ _ _ _ _ _ _; (first | (apply q_callC; exact rfl; exact rfl; exact rfl; exact hX _; (focus ((repeat (first | exact trivial | refine ⟨by first | exact rfl | assumption, ?_⟩)); done)); skip)); (try simp only [put, rowsOf, plR, List.all_cons, selE, ovr, setH, del, cellsA, splice, isV, List.nil_append, List.cons_append, List.map_cons, List.map_nil, List.length_cons, List.length_nil, List.set_cons_zero, List.set_cons_succ, List.take_succ_cons, List.take_zero, List.take_nil, List.drop_succ_cons, List.drop_zero, List.drop_nil, List.append_nil, List.all_cons, List.all_nil, Bool.and_true, Bool.true_and, Bool.and_false, Bool.false_and, Nat.reduceAdd, Nat.zero_add, Nat.add_zero, Nat.reduceEqDiff, if_true, if_false, reduceIte]))
    | (show AW _ _ _ _ _ _ _ _; first | refine aw_region ?_ | (refine aw_seqk ?_; intro K hK) | refine aw_block ?_ | (apply aw_cond_f; exact rfl; exact rfl) | (apply aw_cond_t; exact rfl; exact (by assumption)) | refine aw_ret ?_ | refine aw_skip ?_)
    | refine thn_n ?_
    | (refine hK _ _ _ ?_; clear hK K)
    | refine thn_r ?_
    | refine inb_r ?_)); all_goals (repeat (clear hK K)))
        all_goals exact absurd (hg ▸ hv) (by simp)
      · have d4 : decide (qb < 0) = false := by simpa using c4
        rw [if_neg c4] at hg
        ((repeat' (first
    | (show SQ _ _ _ _ _ _ _ _; first | apply sq_nil | (apply q_move; exact rfl; exact rfl) | (apply q_assign; exact rfl; exact rfl) | (apply q_fieldAddr; exact rfl; exact rfl; exact (ty rfl); exact rfl; exact rfl; exact rfl; exact rfl) | (apply q_add; exact rfl; exact rfl; exact rfl) | (apply q_lss; exact rfl; exact rfl; exact rfl) | (apply q_ld1p; exact rfl; exact rfl; exact (ty rfl); exact rfl; exact rfl; exact (by first | rfl | assumption | ((try simp only [Nat.zero_add]); refine List.getElem?_set_self ?_; (try simp only [List.length_set]); assumption)); exact rfl))
    | (show SQ _ _ _ _ _ _ _ _; (first | (apply q_callC; exact rfl; exact rfl; exact rfl; exact hX _; (focus ((repeat (first | exact trivial | refine ⟨by first | exact rfl | assumption, ?_⟩)); done)); skip)); (try simp only [put, rowsOf, plR, List.all_cons, selE, ovr, setH, del, cellsA, splice, isV, List.nil_append, List.cons_append, List.map_cons, List.map_nil, List.length_cons, List.length_nil, List.set_cons_zero, List.set_cons_succ, List.take_succ_cons, List.take_zero, List.take_nil, List.drop_succ_cons, List.drop_zero, List.drop_nil, List.append_nil, List.all_cons, List.all_nil, Bool.and_true, Bool.true_and, Bool.and_false, Bool.false_and, Nat.reduceAdd, Nat.zero_add, Nat.add_zero, Nat.reduceEqDiff, if_true, if_false, reduceIte]))
    | (show AW _ _ _ _ _ _ _ _; first | refine aw_region ?_ | (refine aw_seqk ?_; intro K hK) | refine aw_block ?_ | (apply aw_cond_f; exact rfl; exact rfl) | (apply aw_cond_t; exact rfl; exact (by assumption)) | (apply aw_cond_f; exact rfl; exact (by assumption)) | refine aw_skip ?_)
    | refine thn_n ?_
    | (refine hK _ _ _ ?_; clear hK K)
    | refine inb_n ?_)); all_goals (repeat (clear hK K)))
        all_goals (refine ⟨(m + 1, (qb, qf)), mv 1 2, ⟨c1, by dsimp only; omega, by dsimp only; omega, hg⟩, by dsimp only; omega, ?_⟩; (try dsimp only); rw [← hw]; exact ⟨by (repeat (refine ⟨by first | exact lk_i rfl rfl | exact lk_d rfl rfl | exact lk_r rfl rfl rfl, ?_⟩)); exact trivial, by (repeat (refine ⟨by first | exact ⟨rfl, rfl, rfl⟩, ?_⟩)); exact trivial, by rfl, by exact pin_0⟩)
  · have d1 : decide ((m : Int) < ((list.length + 1 : Nat) : Int)) = false := by rw [decide_eq_false_iff_not]; omega
    rw [show list.length + 1 - m = 0 by omega, topF] at hg
    ((repeat' (first
    | (show SQ _ _ _ _ _ _ _ _; first | apply sq_nil | (apply q_assign; exact rfl; exact rfl) | (apply q_lss; exact rfl; exact rfl; exact rfl))
    | (show AW _ _ _ _ _ _ _ _; first | refine aw_region ?_ | (refine aw_seqk ?_; intro K hK) | (apply aw_cond_f; exact rfl; exact (by assumption)) | refine aw_ret ?_ | refine aw_exit ?_)
    | refine thn_n ?_
    | (refine hK _ _ _ ?_; clear hK K)
    | refine thn_e ?_
    | refine inb_same ?_
    | (clear hK K; refine hK _ _ _ ?_; clear hK K))); all_goals (repeat (clear hK K)))
    all_goals exact absurd (hg ▸ hv) (by simp)
theorem Rep_full (bu : Int) (h : prB ds ap = true) (h2 : inB bu 1 20000 = true) (h3 : stB ds list = true) (h4 : frB list frz = true) (hv : ((topF ds ap list frz (list.length + 1) 0 (bu, [])).1 = false ∧ (topF ds ap list frz (list.length + 1) 0 (bu, [])).2.1 < 0)) (k : Nat) : RO Try.prog 30 [.agg [.dsl 1 (nbL ds), .dsl 1 (nbL ap)], .dsl 1 (list.map inL), .dsl 1 (frz.map inL), .v (.int .i64 bu)] k (.tup [.v (.slice none 0 0), .v (.int .i64 0), .v (.int .i64 5)]) [] k := by
  have hml : (list.map inL).length = list.length := List.length_map _
  have hP := snd_of hS hA h h3 hf
  have hN := hP.n
  have hL := hP.l
  have hV := stateCode_ro ds ap list hS hA hn
  rw [if_neg (by rw [h]; simp), if_neg (by rw [h3]; simp)] at hV
  have hB := budgetValid_ro ds hS bu
  have hI := increasing_ro frz hf
  have hW := allWithin_ro frz (frz.map inL) 0 (IntKind.i64.wrap (((list.map inL).length : Int) - 1)) rfl hf
  have hw : IntKind.i64.wrap (((list.map inL).length : Int) - 1) = (list.length : Int) - 1 := by rw [hml, IntWalk.i64_in _ (by omega)]
  obtain ⟨h41, h42⟩ : incB frz = true ∧ (!frz.any fun x => !inB x 0 (IntKind.i64.wrap (((list.map inL).length : Int) - 1))) = true := by rw [hw]; simpa only [frB, Bool.and_eq_true] using h4
  rw [h41] at hI
  rw [h42] at hW
  have b2 : (!inB bu 1 20000) = false := by rw [h2]; rfl
  have b1 : ((0 : Int) == 1) = false := rfl
  have b3 : ((0 : Int) != 0) = false := rfl
  have hbu : 1 ≤ bu ∧ bu ≤ 20000 := by simpa [inB] using h2
  have hw1 : IntKind.i64.wrap (((list.map inL).length : Int) + 1) = ((list.length + 1 : Nat) : Int) := by rw [hml, IntWalk.i64_in _ (by omega)]; omega
  generalize hQQ : topF ds ap list frz (list.length + 1) 0 (bu, []) = Q at *
  refine RO.ofp Try.func30 Try.ntmps30 rfl (goFn_of Try.func30 rfl (by kernel_rfl)) rfl rfl rfl ?_
  ((repeat' (first
    | (show SQ _ _ _ _ _ _ _ _; first | apply sq_nil | (apply q_move; exact rfl; exact rfl) | (apply q_assign; exact rfl; exact rfl) | (apply q_pick_f; exact rfl; exact rfl; exact rfl; exact (by first | assumption | exact rfl)) | (apply q_not; exact rfl; exact rfl) | (apply q_lend; exact rfl; exact rfl; exact (ty rfl); exact rfl) | (apply q_add; exact rfl; exact rfl; exact rfl) | (apply q_sub; exact rfl; exact rfl; exact rfl) | (apply q_eql; exact rfl; exact rfl; exact rfl) | (apply q_neq; exact rfl; exact rfl; exact rfl) | (apply q_build; exact rfl; exact (ty rfl); exact rfl; exact rfl; exact rfl) | (apply q_g; exact rfl; exact rfl; exact rfl; exact (by assumption)))
    | (show SQ _ _ _ _ _ _ _ _; (first | (apply q_ldap; exact rfl; exact rfl; exact (ty rfl); exact rfl; exact rfl; exact (by first | rfl | assumption | ((try simp only [Nat.zero_add]); refine List.getElem?_set_self ?_; (try simp only [List.length_set]); assumption)); exact rfl) | (apply q_box; exact rfl; exact rfl; exact rfl) | (apply q_alloc; exact rfl; exact (ty rfl); exact rfl; exact rfl) | (apply q_store; exact rfl; exact rfl; exact (ty rfl); exact rfl; exact (by first | rfl | assumption | ((try simp only [Nat.zero_add]); refine List.getElem?_set_self ?_; (try simp only [List.length_set]); assumption)); exact rfl; exact rfl; exact rfl) | (apply q_callU; exact rfl; exact rfl; exact rfl; exact FzL.of rfl; exact hV _) | (apply q_callU; exact rfl; exact rfl; exact rfl; exact FzL.of rfl; exact hB _) | (apply q_callU; exact rfl; exact rfl; exact rfl; exact FzL.of rfl; exact hI _) | (apply q_callU; exact rfl; exact rfl; exact rfl; exact FzL.of rfl; exact hW _)); (try simp only [put, rowsOf, plR, List.all_cons, selE, ovr, setH, del, cellsA, splice, isV, List.nil_append, List.cons_append, List.map_cons, List.map_nil, List.length_cons, List.length_nil, List.set_cons_zero, List.set_cons_succ, List.take_succ_cons, List.take_zero, List.take_nil, List.drop_succ_cons, List.drop_zero, List.drop_nil, List.append_nil, List.all_cons, List.all_nil, Bool.and_true, Bool.true_and, Bool.and_false, Bool.false_and, Nat.reduceAdd, Nat.zero_add, Nat.add_zero, Nat.reduceEqDiff, if_true, if_false, reduceIte]))
    | (show AW _ _ _ _ _ _ _ _; first | refine aw_region ?_ | (refine aw_seqk ?_; intro K hK) | refine aw_block ?_ | (apply aw_cond_f; exact rfl; exact rfl) | (apply aw_cond_f; exact rfl; exact (by assumption)) | refine aw_skip ?_)
    | refine thn_n ?_
    | (refine hK _ _ _ ?_; clear hK K)
    | refine inb_n ?_)); all_goals (repeat (clear hK K)))
  refine aw_nilB 1 0 5 2 1 rfl rfl rfl rfl rfl ?_
  refine aw_loop (ρ := sh1) (ι := Nat × Rs) (fun s => ([(49, .v (.int .i64 (s.1 : Int))), (48, .v (.int .i64 ((list.length + 1 : Nat) : Int))), (12, .ptr 0 0 0), (1, .dsl 1 (list.map inL))],
      [(0, ⟨92, 6, false, [[.dsl 1 (nbL ds), .dsl 1 (nbL ap), .dsl 1 (list.map inL), .dsl 1 (frz.map inL), .v (.int .i64 s.2.1), .sl 1 0 0]]⟩), (1, ⟨2, 1, true, s.2.2.map inL⟩)], 2))
    (fun s => s.1 ≤ list.length + 1 ∧ 0 ≤ s.2.1 ∧ s.2.1 ≤ 20000 ∧ topF ds ap list frz (list.length + 1 - s.1) s.1 s.2 = Q) (fun s => list.length + 1 - s.1) (0, (bu, [])) ⟨Nat.zero_le _, by dsimp only; omega, by dsimp only; omega, hQQ⟩ ⟨by (repeat (refine ⟨by first | exact lk_i rfl rfl | exact lk_i rfl (by (try dsimp only); first | rfl | omega | (rw [IntWalk.i64_in _ (by omega)]; first | rfl | omega | (push_cast; omega)) | (simp; done) | (simp; omega)) | exact lk_d rfl rfl | exact lk_r rfl rfl rfl, ?_⟩)); exact trivial, by (repeat (refine ⟨by first | exact ⟨rfl, rfl, rfl⟩, ?_⟩)); exact trivial, by rfl, by exact pin_0⟩ ?_
  rintro ⟨m, b2, bf⟩ ⟨hm, s0, s1, hg⟩
  dsimp only at hm s0 s1 hg
  by_cases c1 : m < list.length + 1
  · have d1 : decide ((m : Int) < ((list.length + 1 : Nat) : Int)) = true := by rw [decide_eq_true_eq]; omega
    have hw : IntKind.i64.wrap ((m : Int) + 1) = ((m + 1 : Nat) : Int) := by rw [IntWalk.i64_in _ (by omega)]; omega
    have hX := extend_rc ds ap list frz hP list.length (m : Int) (b2, bf) (Nat.le_refl _) (by omega) (by omega) s0 s1 (by omega) (fun e => by
      have := h; rw [hL] at e
      simp only [prB, domsB, Bool.and_eq_true, decide_eq_true_eq] at this; omega) (by rw [Nat.sub_self]; simp) 0 1 (by decide)
    have hk := repF_keep (ds := ds) (ap := ap) (list := list) (frz := frz) list.length (m : Int) (b2, bf) (Nat.le_refl _) s0 (by omega) (fun e => by
      have := h; rw [hL] at e
      simp only [prB, domsB, Bool.and_eq_true, decide_eq_true_eq] at this; omega)
    rw [Nat.sub_self] at hX hk
    unfold rsR at hX
    rw [show list.length + 1 - m = (list.length + 1 - (m + 1)) + 1 by omega, topF] at hg
    generalize repF ds ap list frz list.length (m : Int) (b2, bf) = q at *
    obtain ⟨qo, qb, qf⟩ := q
    have kb := hk.bud
    have kl := hk.lo
    have ko := hk.ok
    dsimp only at hX kb kl hg ko
    have hqm : (qf.map inL).length = qf.length := List.length_map _
    cases qo with
    | true =>
      rw [if_pos rfl] at hg hX
      obtain ⟨kn, kz⟩ := ko rfl
      have hCh := ChangesBetween_ro qf list kn (by omega)
      rw [kn] at hCh
      have hdt : ((qf.map inL).drop 0).take list.length = qf.map inL := by rw [List.drop_zero, List.take_of_length_le (by omega)]
      ((repeat' (first
    | (show SQ _ _ _ _ _ _ _ _; first | apply sq_nil | (apply q_move; exact rfl; exact rfl) | (apply q_assign; exact rfl; exact rfl) | (apply q_lss; exact rfl; exact rfl; exact rfl))
    | (show SQ _ _ _ _ _ _ _ _; (first | (apply q_callC; exact rfl; exact rfl; exact rfl; exact hX _; (focus ((repeat (first | exact trivial | refine ⟨by first | exact rfl | assumption, ?_⟩)); done)); skip)); (try simp only [put, rowsOf, plR, List.all_cons, selE, ovr, setH, del, cellsA, splice, isV, List.nil_append, List.cons_append, List.map_cons, List.map_nil, List.length_cons, List.length_nil, List.set_cons_zero, List.set_cons_succ, List.take_succ_cons, List.take_zero, List.take_nil, List.drop_succ_cons, List.drop_zero, List.drop_nil, List.append_nil, List.all_cons, List.all_nil, Bool.and_true, Bool.true_and, Bool.and_false, Bool.false_and, Nat.reduceAdd, Nat.zero_add, Nat.add_zero, Nat.reduceEqDiff, if_true, if_false, reduceIte]))
    | (show DE _ _ _ _ _ _ _ _ _ _ _ _; first | (apply e_move; exact rfl; exact rfl; exact rfl) | (apply e_assign; exact rfl; exact rfl; exact rfl) | (apply e_fieldAddr; exact rfl; exact rfl; exact (ty rfl); exact rfl; exact rfl; exact rfl; exact rfl; exact rfl) | (apply e_ld1p; exact rfl; exact rfl; exact (ty rfl); exact rfl; exact rfl; exact (by first | rfl | assumption | ((try simp only [Nat.zero_add]); refine List.getElem?_set_self ?_; (try simp only [List.length_set]); assumption)); exact rfl; exact rfl))
    | (show DE _ _ _ _ _ _ _ _ _ _ _ _; (first | (apply dr_nil; exact trivial) | (apply e_callU; exact rfl; exact rfl; exact rfl; rotate_left; exact hCh _; exact rfl; rotate_right; focus ((repeat' (first | exact FzL.nil | exact (by assumption : FzC _) _ | refine FzL.cons ?_ ?_ | exact Fz.of rfl | exact Fz.nil | exact Fz.emp | (apply Fz.fnC; assumption) | (apply Fz.sl2; exact rfl; exact (by first | omega | (simp; done) | (simp; omega)); first | exact rfl | exact dt_full (by first | omega | (simp; done) | (simp; omega)) | assumption) | apply Fz.agg | (apply Fz.ptrL; exact rfl; first | exact rfl | assumption) | apply Fz.fnL)); done))); (try simp only [put, rowsOf, plR, List.all_cons, selE, ovr, setH, del, cellsA, splice, isV, List.nil_append, List.cons_append, List.map_cons, List.map_nil, List.length_cons, List.length_nil, List.set_cons_zero, List.set_cons_succ, List.take_succ_cons, List.take_zero, List.take_nil, List.drop_succ_cons, List.drop_zero, List.drop_nil, List.append_nil, List.all_cons, List.all_nil, Bool.and_true, Bool.true_and, Bool.and_false, Bool.false_and, Nat.reduceAdd, Nat.zero_add, Nat.add_zero, Nat.reduceEqDiff, if_true, if_false, reduceIte]))
    | (show AW _ _ _ _ _ _ _ _; first | refine aw_region ?_ | (refine aw_seqk ?_; intro K hK) | refine aw_block ?_ | (apply aw_cond_t; exact rfl; exact rfl) | (apply aw_cond_t; exact rfl; exact (by assumption)) | refine aw_ret ?_ | refine aw_skip ?_ | refine aw_drawE (id := 15) [0, 1, 0, 4, 0, 28, 63, 127, 255] [0, 1, 0, 1, 0, 1, 0, 0, 0] mixed (by kernel_rfl) ?_)
    | refine thn_n ?_
    | (refine hK _ _ _ ?_; clear hK K)
    | refine thn_r ?_
    | refine inb_r ?_)); all_goals (repeat (clear hK K)))
      all_goals exact absurd (hg ▸ hv.1) (by simp)
    | false =>
      rw [if_neg (by simp)] at hg hX
      by_cases c4 : qb < 0
      · have d4 : decide (qb < 0) = true := by simpa using c4
        rw [if_pos c4] at hg
        ((repeat' (first
    | (show SQ _ _ _ _ _ _ _ _; first | apply sq_nil | (apply q_move; exact rfl; exact rfl) | (apply q_assign; exact rfl; exact rfl) | (apply q_fieldAddr; exact rfl; exact rfl; exact (ty rfl); exact rfl; exact rfl; exact rfl; exact rfl) | (apply q_lss; exact rfl; exact rfl; exact rfl) | (apply q_ld1p; exact rfl; exact rfl; exact (ty rfl); exact rfl; exact rfl; exact (by first | rfl | assumption | ((try simp only [Nat.zero_add]); refine List.getElem?_set_self ?_; (try simp only [List.length_set]); assumption)); exact rfl))
    | (show SQ _ _ _ _ _ _ _ _; (first | (apply q_callC; exact rfl; exact rfl; exact rfl; exact hX _; (focus ((repeat (first | exact trivial | refine ⟨by first | exact rfl | assumption, ?_⟩)); done)); skip)); (try simp only [put, rowsOf, plR, List.all_cons, selE, ovr, setH, del, cellsA, splice, isV, List.nil_append, List.cons_append, List.map_cons, List.map_nil, List.length_cons, List.length_nil, List.set_cons_zero, List.set_cons_succ, List.take_succ_cons, List.take_zero, List.take_nil, List.drop_succ_cons, List.drop_zero, List.drop_nil, List.append_nil, List.all_cons, List.all_nil, Bool.and_true, Bool.true_and, Bool.and_false, Bool.false_and, Nat.reduceAdd, Nat.zero_add, Nat.add_zero, Nat.reduceEqDiff, if_true, if_false, reduceIte]))
    | (show AW _ _ _ _ _ _ _ _; first | refine aw_region ?_ | (refine aw_seqk ?_; intro K hK) | refine aw_block ?_ | (apply aw_cond_f; exact rfl; exact rfl) | (apply aw_cond_t; exact rfl; exact (by assumption)) | refine aw_ret ?_ | refine aw_skip ?_)
    | refine thn_n ?_
    | (refine hK _ _ _ ?_; clear hK K)
    | refine thn_r ?_
    | refine inb_r ?_)); all_goals (repeat (clear hK K)))
        all_goals (refine fin_r (fin_p (.r3 _ _ _ _ _ _ (.tmp _ _ rfl) (.tmp _ _ rfl) (.tmp _ _ rfl)) ?_ rfl rfl rfl); rfl)
      · have d4 : decide (qb < 0) = false := by simpa using c4
        rw [if_neg c4] at hg
        ((repeat' (first
    | (show SQ _ _ _ _ _ _ _ _; first | apply sq_nil | (apply q_move; exact rfl; exact rfl) | (apply q_assign; exact rfl; exact rfl) | (apply q_fieldAddr; exact rfl; exact rfl; exact (ty rfl); exact rfl; exact rfl; exact rfl; exact rfl) | (apply q_add; exact rfl; exact rfl; exact rfl) | (apply q_lss; exact rfl; exact rfl; exact rfl) | (apply q_ld1p; exact rfl; exact rfl; exact (ty rfl); exact rfl; exact rfl; exact (by first | rfl | assumption | ((try simp only [Nat.zero_add]); refine List.getElem?_set_self ?_; (try simp only [List.length_set]); assumption)); exact rfl))
    | (show SQ _ _ _ _ _ _ _ _; (first | (apply q_callC; exact rfl; exact rfl; exact rfl; exact hX _; (focus ((repeat (first | exact trivial | refine ⟨by first | exact rfl | assumption, ?_⟩)); done)); skip)); (try simp only [put, rowsOf, plR, List.all_cons, selE, ovr, setH, del, cellsA, splice, isV, List.nil_append, List.cons_append, List.map_cons, List.map_nil, List.length_cons, List.length_nil, List.set_cons_zero, List.set_cons_succ, List.take_succ_cons, List.take_zero, List.take_nil, List.drop_succ_cons, List.drop_zero, List.drop_nil, List.append_nil, List.all_cons, List.all_nil, Bool.and_true, Bool.true_and, Bool.and_false, Bool.false_and, Nat.reduceAdd, Nat.zero_add, Nat.add_zero, Nat.reduceEqDiff, if_true, if_false, reduceIte]))
    | (show AW _ _ _ _ _ _ _ _; first | refine aw_region ?_ | (refine aw_seqk ?_; intro K hK) | refine aw_block ?_ | (apply aw_cond_f; exact rfl; exact rfl) | (apply aw_cond_t; exact rfl; exact (by assumption)) | (apply aw_cond_f; exact rfl; exact (by assumption)) | refine aw_skip ?_)
    | refine thn_n ?_
    | (refine hK _ _ _ ?_; clear hK K)
    | refine inb_n ?_)); all_goals (repeat (clear hK K)))
        all_goals (refine ⟨(m + 1, (qb, qf)), mv 1 2, ⟨c1, by dsimp only; omega, by dsimp only; omega, hg⟩, by dsimp only; omega, ?_⟩; (try dsimp only); rw [← hw]; exact ⟨by (repeat (refine ⟨by first | exact lk_i rfl rfl | exact lk_d rfl rfl | exact lk_r rfl rfl rfl, ?_⟩)); exact trivial, by (repeat (refine ⟨by first | exact ⟨rfl, rfl, rfl⟩, ?_⟩)); exact trivial, by rfl, by exact pin_0⟩)
  · have d1 : decide ((m : Int) < ((list.length + 1 : Nat) : Int)) = false := by rw [decide_eq_false_iff_not]; omega
    rw [show list.length + 1 - m = 0 by omega, topF] at hg
    ((repeat' (first
    | (show SQ _ _ _ _ _ _ _ _; first | apply sq_nil | (apply q_assign; exact rfl; exact rfl) | (apply q_lss; exact rfl; exact rfl; exact rfl))
    | (show AW _ _ _ _ _ _ _ _; first | refine aw_region ?_ | (refine aw_seqk ?_; intro K hK) | (apply aw_cond_f; exact rfl; exact (by assumption)) | refine aw_ret ?_ | refine aw_exit ?_)
    | refine thn_n ?_
    | (refine hK _ _ _ ?_; clear hK K)
    | refine thn_e ?_
    | refine inb_same ?_
    | (clear hK K; refine hK _ _ _ ?_; clear hK K))); all_goals (repeat (clear hK K)))
    all_goals (subst hg; exact absurd hv.2 (by dsimp only; omega))
theorem Rep_none (bu : Int) (h : prB ds ap = true) (h2 : inB bu 1 20000 = true) (h3 : stB ds list = true) (h4 : frB list frz = true) (hv : ((topF ds ap list frz (list.length + 1) 0 (bu, [])).1 = false ∧ ¬ (topF ds ap list frz (list.length + 1) 0 (bu, [])).2.1 < 0)) (k : Nat) : RO Try.prog 30 [.agg [.dsl 1 (nbL ds), .dsl 1 (nbL ap)], .dsl 1 (list.map inL), .dsl 1 (frz.map inL), .v (.int .i64 bu)] k (.tup [.v (.slice none 0 0), .v (.int .i64 0), .v (.int .i64 3)]) [] k := by
  have hml : (list.map inL).length = list.length := List.length_map _
  have hP := snd_of hS hA h h3 hf
  have hN := hP.n
  have hL := hP.l
  have hV := stateCode_ro ds ap list hS hA hn
  rw [if_neg (by rw [h]; simp), if_neg (by rw [h3]; simp)] at hV
  have hB := budgetValid_ro ds hS bu
  have hI := increasing_ro frz hf
  have hW := allWithin_ro frz (frz.map inL) 0 (IntKind.i64.wrap (((list.map inL).length : Int) - 1)) rfl hf
  have hw : IntKind.i64.wrap (((list.map inL).length : Int) - 1) = (list.length : Int) - 1 := by rw [hml, IntWalk.i64_in _ (by omega)]
  obtain ⟨h41, h42⟩ : incB frz = true ∧ (!frz.any fun x => !inB x 0 (IntKind.i64.wrap (((list.map inL).length : Int) - 1))) = true := by rw [hw]; simpa only [frB, Bool.and_eq_true] using h4
  rw [h41] at hI
  rw [h42] at hW
  have b2 : (!inB bu 1 20000) = false := by rw [h2]; rfl
  have b1 : ((0 : Int) == 1) = false := rfl
  have b3 : ((0 : Int) != 0) = false := rfl
  have hbu : 1 ≤ bu ∧ bu ≤ 20000 := by simpa [inB] using h2
  have hw1 : IntKind.i64.wrap (((list.map inL).length : Int) + 1) = ((list.length + 1 : Nat) : Int) := by rw [hml, IntWalk.i64_in _ (by omega)]; omega
  generalize hQQ : topF ds ap list frz (list.length + 1) 0 (bu, []) = Q at *
  refine RO.ofp Try.func30 Try.ntmps30 rfl (goFn_of Try.func30 rfl (by kernel_rfl)) rfl rfl rfl ?_
  ((repeat' (first
    | (show SQ _ _ _ _ _ _ _ _; first | apply sq_nil | (apply q_move; exact rfl; exact rfl) | (apply q_assign; exact rfl; exact rfl) | (apply q_pick_f; exact rfl; exact rfl; exact rfl; exact (by first | assumption | exact rfl)) | (apply q_not; exact rfl; exact rfl) | (apply q_lend; exact rfl; exact rfl; exact (ty rfl); exact rfl) | (apply q_add; exact rfl; exact rfl; exact rfl) | (apply q_sub; exact rfl; exact rfl; exact rfl) | (apply q_eql; exact rfl; exact rfl; exact rfl) | (apply q_neq; exact rfl; exact rfl; exact rfl) | (apply q_build; exact rfl; exact (ty rfl); exact rfl; exact rfl; exact rfl) | (apply q_g; exact rfl; exact rfl; exact rfl; exact (by assumption)))
    | (show SQ _ _ _ _ _ _ _ _; (first | (apply q_ldap; exact rfl; exact rfl; exact (ty rfl); exact rfl; exact rfl; exact (by first | rfl | assumption | ((try simp only [Nat.zero_add]); refine List.getElem?_set_self ?_; (try simp only [List.length_set]); assumption)); exact rfl) | (apply q_box; exact rfl; exact rfl; exact rfl) | (apply q_alloc; exact rfl; exact (ty rfl); exact rfl; exact rfl) | (apply q_store; exact rfl; exact rfl; exact (ty rfl); exact rfl; exact (by first | rfl | assumption | ((try simp only [Nat.zero_add]); refine List.getElem?_set_self ?_; (try simp only [List.length_set]); assumption)); exact rfl; exact rfl; exact rfl) | (apply q_callU; exact rfl; exact rfl; exact rfl; exact FzL.of rfl; exact hV _) | (apply q_callU; exact rfl; exact rfl; exact rfl; exact FzL.of rfl; exact hB _) | (apply q_callU; exact rfl; exact rfl; exact rfl; exact FzL.of rfl; exact hI _) | (apply q_callU; exact rfl; exact rfl; exact rfl; exact FzL.of rfl; exact hW _)); (try simp only [put, rowsOf, plR, List.all_cons, selE, ovr, setH, del, cellsA, splice, isV, List.nil_append, List.cons_append, List.map_cons, List.map_nil, List.length_cons, List.length_nil, List.set_cons_zero, List.set_cons_succ, List.take_succ_cons, List.take_zero, List.take_nil, List.drop_succ_cons, List.drop_zero, List.drop_nil, List.append_nil, List.all_cons, List.all_nil, Bool.and_true, Bool.true_and, Bool.and_false, Bool.false_and, Nat.reduceAdd, Nat.zero_add, Nat.add_zero, Nat.reduceEqDiff, if_true, if_false, reduceIte]))
    | (show AW _ _ _ _ _ _ _ _; first | refine aw_region ?_ | (refine aw_seqk ?_; intro K hK) | refine aw_block ?_ | (apply aw_cond_f; exact rfl; exact rfl) | (apply aw_cond_f; exact rfl; exact (by assumption)) | refine aw_skip ?_)
    | refine thn_n ?_
    | (refine hK _ _ _ ?_; clear hK K)
    | refine inb_n ?_)); all_goals (repeat (clear hK K)))
  refine aw_nilB 1 0 5 2 1 rfl rfl rfl rfl rfl ?_
  refine aw_loop (ρ := sh1) (ι := Nat × Rs) (fun s => ([(49, .v (.int .i64 (s.1 : Int))), (48, .v (.int .i64 ((list.length + 1 : Nat) : Int))), (12, .ptr 0 0 0), (1, .dsl 1 (list.map inL))],
      [(0, ⟨92, 6, false, [[.dsl 1 (nbL ds), .dsl 1 (nbL ap), .dsl 1 (list.map inL), .dsl 1 (frz.map inL), .v (.int .i64 s.2.1), .sl 1 0 0]]⟩), (1, ⟨2, 1, true, s.2.2.map inL⟩)], 2))
    (fun s => s.1 ≤ list.length + 1 ∧ 0 ≤ s.2.1 ∧ s.2.1 ≤ 20000 ∧ topF ds ap list frz (list.length + 1 - s.1) s.1 s.2 = Q) (fun s => list.length + 1 - s.1) (0, (bu, [])) ⟨Nat.zero_le _, by dsimp only; omega, by dsimp only; omega, hQQ⟩ ⟨by (repeat (refine ⟨by first | exact lk_i rfl rfl | exact lk_i rfl (by (try dsimp only); first | rfl | omega | (rw [IntWalk.i64_in _ (by omega)]; first | rfl | omega | (push_cast; omega)) | (simp; done) | (simp; omega)) | exact lk_d rfl rfl | exact lk_r rfl rfl rfl, ?_⟩)); exact trivial, by (repeat (refine ⟨by first | exact ⟨rfl, rfl, rfl⟩, ?_⟩)); exact trivial, by rfl, by exact pin_0⟩ ?_
  rintro ⟨m, b2, bf⟩ ⟨hm, s0, s1, hg⟩
  dsimp only at hm s0 s1 hg
  by_cases c1 : m < list.length + 1
  · have d1 : decide ((m : Int) < ((list.length + 1 : Nat) : Int)) = true := by rw [decide_eq_true_eq]; omega
    have hw : IntKind.i64.wrap ((m : Int) + 1) = ((m + 1 : Nat) : Int) := by rw [IntWalk.i64_in _ (by omega)]; omega
    have hX := extend_rc ds ap list frz hP list.length (m : Int) (b2, bf) (Nat.le_refl _) (by omega) (by omega) s0 s1 (by omega) (fun e => by
      have := h; rw [hL] at e
      simp only [prB, domsB, Bool.and_eq_true, decide_eq_true_eq] at this; omega) (by rw [Nat.sub_self]; simp) 0 1 (by decide)
    have hk := repF_keep (ds := ds) (ap := ap) (list := list) (frz := frz) list.length (m : Int) (b2, bf) (Nat.le_refl _) s0 (by omega) (fun e => by
      have := h; rw [hL] at e
      simp only [prB, domsB, Bool.and_eq_true, decide_eq_true_eq] at this; omega)
    rw [Nat.sub_self] at hX hk
    unfold rsR at hX
    rw [show list.length + 1 - m = (list.length + 1 - (m + 1)) + 1 by omega, topF] at hg
    generalize repF ds ap list frz list.length (m : Int) (b2, bf) = q at *
    obtain ⟨qo, qb, qf⟩ := q
    have kb := hk.bud
    have kl := hk.lo
    have ko := hk.ok
    dsimp only at hX kb kl hg ko
    have hqm : (qf.map inL).length = qf.length := List.length_map _
    cases qo with
    | true =>
      rw [if_pos rfl] at hg hX
      obtain ⟨kn, kz⟩ := ko rfl
      have hCh := ChangesBetween_ro qf list kn (by omega)
      rw [kn] at hCh
      have hdt : ((qf.map inL).drop 0).take list.length = qf.map inL := by rw [List.drop_zero, List.take_of_length_le (by omega)]
      ((repeat' (first
    | (show SQ _ _ _ _ _ _ _ _; first | apply sq_nil | (apply q_move; exact rfl; exact rfl) | (apply q_assign; exact rfl; exact rfl) | (apply q_lss; exact rfl; exact rfl; exact rfl))
    | (show SQ _ _ _ _ _ _ _ _; (first | (apply q_callC; exact rfl; exact rfl; exact rfl; exact hX _; (focus ((repeat (first | exact trivial | refine ⟨by first | exact rfl | assumption, ?_⟩)); done)); skip)); (try simp only [put, rowsOf, plR, List.all_cons, selE, ovr, setH, del, cellsA, splice, isV, List.nil_append, List.cons_append, List.map_cons, List.map_nil, List.length_cons, List.length_nil, List.set_cons_zero, List.set_cons_succ, List.take_succ_cons, List.take_zero, List.take_nil, List.drop_succ_cons, List.drop_zero, List.drop_nil, List.append_nil, List.all_cons, List.all_nil, Bool.and_true, Bool.true_and, Bool.and_false, Bool.false_and, Nat.reduceAdd, Nat.zero_add, Nat.add_zero, Nat.reduceEqDiff, if_true, if_false, reduceIte]))
    | (show DE _ _ _ _ _ _ _ _ _ _ _ _; first | (apply e_move; exact rfl; exact rfl; exact rfl) | (apply e_assign; exact rfl; exact rfl; exact rfl) | (apply e_fieldAddr; exact rfl; exact rfl; exact (ty rfl); exact rfl; exact rfl; exact rfl; exact rfl; exact rfl) | (apply e_ld1p; exact rfl; exact rfl; exact (ty rfl); exact rfl; exact rfl; exact (by first | rfl | assumption | ((try simp only [Nat.zero_add]); refine List.getElem?_set_self ?_; (try simp only [List.length_set]); assumption)); exact rfl; exact rfl))
    | (show DE _ _ _ _ _ _ _ _ _ _ _ _; (first | (apply dr_nil; exact trivial) | (apply e_callU; exact rfl; exact rfl; exact rfl; rotate_left; exact hCh _; exact rfl; rotate_right; focus ((repeat' (first | exact FzL.nil | exact (by assumption : FzC _) _ | refine FzL.cons ?_ ?_ | exact Fz.of rfl | exact Fz.nil | exact Fz.emp | (apply Fz.fnC; assumption) | (apply Fz.sl2; exact rfl; exact (by first | omega | (simp; done) | (simp; omega)); first | exact rfl | exact dt_full (by first | omega | (simp; done) | (simp; omega)) | assumption) | apply Fz.agg | (apply Fz.ptrL; exact rfl; first | exact rfl | assumption) | apply Fz.fnL)); done))); (try simp only [put, rowsOf, plR, List.all_cons, selE, ovr, setH, del, cellsA, splice, isV, List.nil_append, List.cons_append, List.map_cons, List.map_nil, List.length_cons, List.length_nil, List.set_cons_zero, List.set_cons_succ, List.take_succ_cons, List.take_zero, List.take_nil, List.drop_succ_cons, List.drop_zero, List.drop_nil, List.append_nil, List.all_cons, List.all_nil, Bool.and_true, Bool.true_and, Bool.and_false, Bool.false_and, Nat.reduceAdd, Nat.zero_add, Nat.add_zero, Nat.reduceEqDiff, if_true, if_false, reduceIte]))
    | (show AW _ _ _ _ _ _ _ _; first | refine aw_region ?_ | (refine aw_seqk ?_; intro K hK) | refine aw_block ?_ | (apply aw_cond_t; exact rfl; exact rfl) | (apply aw_cond_t; exact rfl; exact (by assumption)) | refine aw_ret ?_ | refine aw_skip ?_ | refine aw_drawE (id := 15) [0, 1, 0, 4, 0, 28, 63, 127, 255] [0, 1, 0, 1, 0, 1, 0, 0, 0] mixed (by kernel_rfl) ?_)
    | refine thn_n ?_
    | (refine hK _ _ _ ?_; clear hK K)
    | refine thn_r ?_
    | refine inb_r ?_)); all_goals (repeat (clear hK K)))
      all_goals exact absurd (hg ▸ hv.1) (by simp)
    | false =>
      rw [if_neg (by simp)] at hg hX
      by_cases c4 : qb < 0
      · have d4 : decide (qb < 0) = true := by simpa using c4
        rw [if_pos c4] at hg
        ((repeat' (first
    | (show SQ _ _ _ _ _ _ _ _; first | apply sq_nil | (apply q_move; exact rfl; exact rfl) | (apply q_assign; exact rfl; exact rfl) | (apply q_fieldAddr; exact rfl; exact rfl; exact (ty rfl); exact rfl; exact rfl; exact rfl; exact rfl) | (apply q_lss; exact rfl; exact rfl; exact rfl) | (apply q_ld1p; exact rfl; exact rfl; exact (ty rfl); exact rfl; exact rfl; exact (by first | rfl | assumption | ((try simp only [Nat.zero_add]); refine List.getElem?_set_self ?_; (try simp only [List.length_set]); assumption)); exact rfl))
    | (show SQ _ _ _ _ _ _ _ _; (first | (apply q_callC; exact rfl; exact rfl; exact rfl; exact hX _; (focus ((repeat (first | exact trivial | refine ⟨by first | exact rfl | assumption, ?_⟩)); done)); skip)); (try simp only [put, rowsOf, plR, List.all_cons, selE, ovr, setH, del, cellsA, splice, isV, List.nil_append, List.cons_append, List.map_cons, List.map_nil, List.length_cons, List.length_nil, List.set_cons_zero, List.set_cons_succ, List.take_succ_cons, List.take_zero, List.take_nil, List.drop_succ_cons, List.drop_zero, List.drop_nil, List.append_nil, List.all_cons, List.all_nil, Bool.and_true, Bool.true_and, Bool.and_false, Bool.false_and, Nat.reduceAdd, Nat.zero_add, Nat.add_zero, Nat.reduceEqDiff, if_true, if_false, reduceIte]))
    | (show AW _ _ _ _ _ _ _ _; first | refine aw_region ?_ | (refine aw_seqk ?_; intro K hK) | refine aw_block ?_ | (apply aw_cond_f; exact rfl; exact rfl) | (apply aw_cond_t; exact rfl; exact (by assumption)) | refine aw_ret ?_ | refine aw_skip ?_)
    | refine thn_n ?_
    | (refine hK _ _ _ ?_; clear hK K)
    | refine thn_r ?_
    | refine inb_r ?_)); all_goals (repeat (clear hK K)))
        all_goals (subst hg; exact absurd c4 hv.2)
      · have d4 : decide (qb < 0) = false := by simpa using c4
        rw [if_neg c4] at hg
        ((repeat' (first
    | (show SQ _ _ _ _ _ _ _ _; first | apply sq_nil | (apply q_move; exact rfl; exact rfl) | (apply q_assign; exact rfl; exact rfl) | (apply q_fieldAddr; exact rfl; exact rfl; exact (ty rfl); exact rfl; exact rfl; exact rfl; exact rfl) | (apply q_add; exact rfl; exact rfl; exact rfl) | (apply q_lss; exact rfl; exact rfl; exact rfl) | (apply q_ld1p; exact rfl; exact rfl; exact (ty rfl); exact rfl; exact rfl; exact (by first | rfl | assumption | ((try simp only [Nat.zero_add]); refine List.getElem?_set_self ?_; (try simp only [List.length_set]); assumption)); exact rfl))
    | (show SQ _ _ _ _ _ _ _ _; (first | (apply q_callC; exact rfl; exact rfl; exact rfl; exact hX _; (focus ((repeat (first | exact trivial | refine ⟨by first | exact rfl | assumption, ?_⟩)); done)); skip)); (try simp only [put, rowsOf, plR, List.all_cons, selE, ovr, setH, del, cellsA, splice, isV, List.nil_append, List.cons_append, List.map_cons, List.map_nil, List.length_cons, List.length_nil, List.set_cons_zero, List.set_cons_succ, List.take_succ_cons, List.take_zero, List.take_nil, List.drop_succ_cons, List.drop_zero, List.drop_nil, List.append_nil, List.all_cons, List.all_nil, Bool.and_true, Bool.true_and, Bool.and_false, Bool.false_and, Nat.reduceAdd, Nat.zero_add, Nat.add_zero, Nat.reduceEqDiff, if_true, if_false, reduceIte]))
    | (show AW _ _ _ _ _ _ _ _; first | refine aw_region ?_ | (refine aw_seqk ?_; intro K hK) | refine aw_block ?_ | (apply aw_cond_f; exact rfl; exact rfl) | (apply aw_cond_t; exact rfl; exact (by assumption)) | (apply aw_cond_f; exact rfl; exact (by assumption)) | refine aw_skip ?_)
    | refine thn_n ?_
    | (refine hK _ _ _ ?_; clear hK K)
    | refine inb_n ?_)); all_goals (repeat (clear hK K)))
        all_goals (refine ⟨(m + 1, (qb, qf)), mv 1 2, ⟨c1, by dsimp only; omega, by dsimp only; omega, hg⟩, by dsimp only; omega, ?_⟩; (try dsimp only); rw [← hw]; exact ⟨by (repeat (refine ⟨by first | exact lk_i rfl rfl | exact lk_d rfl rfl | exact lk_r rfl rfl rfl, ?_⟩)); exact trivial, by (repeat (refine ⟨by first | exact ⟨rfl, rfl, rfl⟩, ?_⟩)); exact trivial, by rfl, by exact pin_0⟩)
  · have d1 : decide ((m : Int) < ((list.length + 1 : Nat) : Int)) = false := by rw [decide_eq_false_iff_not]; omega
    rw [show list.length + 1 - m = 0 by omega, topF] at hg
    ((repeat' (first
    | (show SQ _ _ _ _ _ _ _ _; first | apply sq_nil | (apply q_assign; exact rfl; exact rfl) | (apply q_lss; exact rfl; exact rfl; exact rfl))
    | (show AW _ _ _ _ _ _ _ _; first | refine aw_region ?_ | (refine aw_seqk ?_; intro K hK) | (apply aw_cond_f; exact rfl; exact (by assumption)) | refine aw_ret ?_ | refine aw_exit ?_)
    | refine thn_n ?_
    | (refine hK _ _ _ ?_; clear hK K)
    | refine thn_e ?_
    | refine inb_same ?_
    | (clear hK K; refine hK _ _ _ ?_; clear hK K))); all_goals (repeat (clear hK K)))
    all_goals (refine fin_r (fin_p (.r3 _ _ _ _ _ _ (.tmp _ _ rfl) (.tmp _ _ rfl) (.tmp _ _ rfl)) ?_ rfl rfl rfl); rfl)
end
end Go.Proofs.Yteknfaldpajlpaa.Nb

namespace Go.Proofs.Yteknfaldpajlpaa.Nb
open Go Go.RowKit Go.Proofs.Yteknfaldpajlpaa.Aw Go.Proofs.Yteknfaldpajlpaa.In Go.Proofs.Yteknfaldpajlpaa.Il
set_option linter.unusedSimpArgs false
set_option linter.unusedVariables false
set_option linter.unusedSectionVars false
attribute [local irreducible] AW SQ Step RO RC DE Thn InB
section
variable (ds ap : List (List Int)) (list frz : List Int) (hS : NbS ds) (hA : NbS ap) (hn : list.length ≤ 1048576) (hf : frz.length ≤ 1048576)
include hS hA hn hf
set_option maxHeartbeats 4000000 in
theorem SRep_bad_ro (bu : Int) (h : prB ds ap = false) (k : Nat) : RO Try.prog 28 [.agg [.dsl 1 (nbL ds), .dsl 1 (nbL ap)], .dsl 1 (list.map inL), .dsl 1 (frz.map inL), .v (.int .i64 bu)] k (.tup [.v (.slice none 0 0), .v (.int .i64 0), .v (.int .i64 1)]) [] k := by
  have hV := specValidProblem_ro ds ap hS hA
  rw [h] at hV
  refine RO.ofp Try.func28 Try.ntmps28 rfl (goFn_of Try.func28 rfl (by kernel_rfl)) rfl rfl rfl ?_
  ((repeat' (first
    | (show SQ _ _ _ _ _ _ _ _; apply sq_frzp (t := 4); exact rfl; exact rfl; exact (by first | rfl | exact all_noOwn_map (fun _ => rfl) | assumption | exact hclo); exact (by first | rfl | assumption); exact rfl; (try simp only [put, rowsOf, plR, List.all_cons, selE, ovr, setH, del, cellsA, splice, isV, List.nil_append, List.cons_append, List.map_cons, List.map_nil, List.length_cons, List.length_nil, List.set_cons_zero, List.set_cons_succ, List.take_succ_cons, List.take_zero, List.take_nil, List.drop_succ_cons, List.drop_zero, List.drop_nil, List.append_nil, List.all_cons, List.all_nil, Bool.and_true, Bool.true_and, Bool.and_false, Bool.false_and, Nat.reduceAdd, Nat.zero_add, Nat.add_zero, Nat.reduceEqDiff, if_true, if_false, reduceIte]))
    | (show SQ _ _ _ _ _ _ _ _; first | apply sq_nil | (apply q_assign; exact rfl; exact rfl) | (apply q_not; exact rfl; exact rfl))
    | (show SQ _ _ _ _ _ _ _ _; (first | (apply q_ldad; exact rfl; exact rfl; exact (ty rfl); exact rfl; exact rfl) | (apply q_box; exact rfl; exact rfl; exact rfl) | (apply q_callU; exact rfl; exact rfl; exact rfl; exact FzL.of rfl; exact hV _)); (try simp only [put, rowsOf, plR, List.all_cons, selE, ovr, setH, del, cellsA, splice, isV, List.nil_append, List.cons_append, List.map_cons, List.map_nil, List.length_cons, List.length_nil, List.set_cons_zero, List.set_cons_succ, List.take_succ_cons, List.take_zero, List.take_nil, List.drop_succ_cons, List.drop_zero, List.drop_nil, List.append_nil, List.all_cons, List.all_nil, Bool.and_true, Bool.true_and, Bool.and_false, Bool.false_and, Nat.reduceAdd, Nat.zero_add, Nat.add_zero, Nat.reduceEqDiff, if_true, if_false, reduceIte]))
    | (show AW _ _ _ _ _ _ _ _; first | refine aw_region ?_ | (refine aw_seqk ?_; intro K hK) | (apply aw_cond_t; exact rfl; exact rfl) | refine aw_ret ?_)
    | refine thn_n ?_
    | (refine hK _ _ _ ?_; clear hK K)
    | refine thn_r ?_)); all_goals (repeat (clear hK K)))
  all_goals refine fin_r (fin_p (.r3 _ _ _ _ _ _ (.tmp _ _ rfl) (.tmp _ _ rfl) (.tmp _ _ rfl)) ?_ rfl rfl rfl)
  all_goals rfl
set_option maxHeartbeats 4000000 in
theorem SRep_rng_ro (bu : Int) (h : prB ds ap = true) (h2 : inB bu 1 20000 = false) (k : Nat) : RO Try.prog 28 [.agg [.dsl 1 (nbL ds), .dsl 1 (nbL ap)], .dsl 1 (list.map inL), .dsl 1 (frz.map inL), .v (.int .i64 bu)] k (.tup [.v (.slice none 0 0), .v (.int .i64 0), .v (.int .i64 2)]) [] k := by
  have hV := specValidProblem_ro ds ap hS hA
  rw [h] at hV
  have b2 : (!inB bu 1 20000) = true := by rw [h2]; rfl
  refine RO.ofp Try.func28 Try.ntmps28 rfl (goFn_of Try.func28 rfl (by kernel_rfl)) rfl rfl rfl ?_
  ((repeat' (first
    | (show SQ _ _ _ _ _ _ _ _; apply sq_frzp (t := 4); exact rfl; exact rfl; exact (by first | rfl | exact all_noOwn_map (fun _ => rfl) | assumption | exact hclo); exact (by first | rfl | assumption); exact rfl; (try simp only [put, rowsOf, plR, List.all_cons, selE, ovr, setH, del, cellsA, splice, isV, List.nil_append, List.cons_append, List.map_cons, List.map_nil, List.length_cons, List.length_nil, List.set_cons_zero, List.set_cons_succ, List.take_succ_cons, List.take_zero, List.take_nil, List.drop_succ_cons, List.drop_zero, List.drop_nil, List.append_nil, List.all_cons, List.all_nil, Bool.and_true, Bool.true_and, Bool.and_false, Bool.false_and, Nat.reduceAdd, Nat.zero_add, Nat.add_zero, Nat.reduceEqDiff, if_true, if_false, reduceIte]))
    | (show SQ _ _ _ _ _ _ _ _; first | apply sq_nil | (apply q_move; exact rfl; exact rfl) | (apply q_assign; exact rfl; exact rfl) | (apply q_not; exact rfl; exact rfl))
    | (show SQ _ _ _ _ _ _ _ _; (first | (apply q_ldad; exact rfl; exact rfl; exact (ty rfl); exact rfl; exact rfl) | (apply q_box; exact rfl; exact rfl; exact rfl) | (apply q_callU; exact rfl; exact rfl; exact rfl; exact FzL.of rfl; exact hV _) | (apply q_callU; exact rfl; exact rfl; exact rfl; exact FzL.of rfl; exact l00In_ro _ _ _ _)); (try simp only [put, rowsOf, plR, List.all_cons, selE, ovr, setH, del, cellsA, splice, isV, List.nil_append, List.cons_append, List.map_cons, List.map_nil, List.length_cons, List.length_nil, List.set_cons_zero, List.set_cons_succ, List.take_succ_cons, List.take_zero, List.take_nil, List.drop_succ_cons, List.drop_zero, List.drop_nil, List.append_nil, List.all_cons, List.all_nil, Bool.and_true, Bool.true_and, Bool.and_false, Bool.false_and, Nat.reduceAdd, Nat.zero_add, Nat.add_zero, Nat.reduceEqDiff, if_true, if_false, reduceIte]))
    | (show AW _ _ _ _ _ _ _ _; first | refine aw_region ?_ | (refine aw_seqk ?_; intro K hK) | (apply aw_cond_f; exact rfl; exact rfl) | (apply aw_cond_t; exact rfl; exact (by assumption)) | refine aw_ret ?_ | refine aw_skip ?_)
    | refine thn_n ?_
    | (refine hK _ _ _ ?_; clear hK K)
    | refine thn_r ?_)); all_goals (repeat (clear hK K)))
  all_goals refine fin_r (fin_p (.r3 _ _ _ _ _ _ (.tmp _ _ rfl) (.tmp _ _ rfl) (.tmp _ _ rfl)) ?_ rfl rfl rfl)
  all_goals rfl
set_option maxHeartbeats 4000000 in
theorem SRep_st_ro (bu : Int) (h : prB ds ap = true) (h2 : inB bu 1 20000 = true) (h3 : stB ds list = false) (k : Nat) : RO Try.prog 28 [.agg [.dsl 1 (nbL ds), .dsl 1 (nbL ap)], .dsl 1 (list.map inL), .dsl 1 (frz.map inL), .v (.int .i64 bu)] k (.tup [.v (.slice none 0 0), .v (.int .i64 0), .v (.int .i64 6)]) [] k := by
  have hV := specValidProblem_ro ds ap hS hA
  rw [h] at hV
  have hL := l19State_ro ds ap list hn
  rw [h3] at hL
  have b2 : (!inB bu 1 20000) = false := by rw [h2]; rfl
  refine RO.ofp Try.func28 Try.ntmps28 rfl (goFn_of Try.func28 rfl (by kernel_rfl)) rfl rfl rfl ?_
  ((repeat' (first
    | (show SQ _ _ _ _ _ _ _ _; apply sq_frzp (t := 4); exact rfl; exact rfl; exact (by first | rfl | exact all_noOwn_map (fun _ => rfl) | assumption | exact hclo); exact (by first | rfl | assumption); exact rfl; (try simp only [put, rowsOf, plR, List.all_cons, selE, ovr, setH, del, cellsA, splice, isV, List.nil_append, List.cons_append, List.map_cons, List.map_nil, List.length_cons, List.length_nil, List.set_cons_zero, List.set_cons_succ, List.take_succ_cons, List.take_zero, List.take_nil, List.drop_succ_cons, List.drop_zero, List.drop_nil, List.append_nil, List.all_cons, List.all_nil, Bool.and_true, Bool.true_and, Bool.and_false, Bool.false_and, Nat.reduceAdd, Nat.zero_add, Nat.add_zero, Nat.reduceEqDiff, if_true, if_false, reduceIte]))
    | (show SQ _ _ _ _ _ _ _ _; first | apply sq_nil | (apply q_move; exact rfl; exact rfl) | (apply q_assign; exact rfl; exact rfl) | (apply q_pick_t; exact rfl; exact rfl; exact rfl; exact (by first | assumption | exact rfl)) | (apply q_fieldAddr; exact rfl; exact rfl; exact (ty rfl); exact rfl; exact rfl; exact rfl; exact rfl) | (apply q_not; exact rfl; exact rfl) | (apply q_lend; exact rfl; exact rfl; exact (ty rfl); exact rfl) | (apply q_ld1d; exact rfl; exact rfl; exact (ty rfl); exact rfl; exact rfl) | (apply q_s; exact rfl; exact rfl; exact rfl; exact rfl; exact rfl))
    | (show SQ _ _ _ _ _ _ _ _; (first | (apply q_ldad; exact rfl; exact rfl; exact (ty rfl); exact rfl; exact rfl) | (apply q_box; exact rfl; exact rfl; exact rfl) | (apply q_callU; exact rfl; exact rfl; exact rfl; exact FzL.of rfl; exact hV _) | (apply q_callU; exact rfl; exact rfl; exact rfl; exact FzL.of rfl; exact l00In_ro _ _ _ _) | (apply q_callU; exact rfl; exact rfl; exact rfl; exact FzL.of rfl; exact hL _)); (try simp only [put, rowsOf, plR, List.all_cons, selE, ovr, setH, del, cellsA, splice, isV, List.nil_append, List.cons_append, List.map_cons, List.map_nil, List.length_cons, List.length_nil, List.set_cons_zero, List.set_cons_succ, List.take_succ_cons, List.take_zero, List.take_nil, List.drop_succ_cons, List.drop_zero, List.drop_nil, List.append_nil, List.all_cons, List.all_nil, Bool.and_true, Bool.true_and, Bool.and_false, Bool.false_and, Nat.reduceAdd, Nat.zero_add, Nat.add_zero, Nat.reduceEqDiff, if_true, if_false, reduceIte]))
    | (show AW _ _ _ _ _ _ _ _; first | refine aw_region ?_ | (refine aw_seqk ?_; intro K hK) | (apply aw_cond_t; exact rfl; exact rfl) | (apply aw_cond_f; exact rfl; exact rfl) | (apply aw_cond_f; exact rfl; exact (by assumption)) | refine aw_ret ?_ | refine aw_skip ?_)
    | refine thn_n ?_
    | (refine hK _ _ _ ?_; clear hK K)
    | refine thn_r ?_)); all_goals (repeat (clear hK K)))
  all_goals refine fin_r (fin_p (.r3 _ _ _ _ _ _ (.tmp _ _ rfl) (.tmp _ _ rfl) (.tmp _ _ rfl)) ?_ rfl rfl rfl)
  all_goals rfl
set_option maxHeartbeats 4000000 in
theorem SRep_frz_ro (bu : Int) (h : prB ds ap = true) (h2 : inB bu 1 20000 = true) (h3 : stB ds list = true) (h4 : frB list frz = false) (k : Nat) : RO Try.prog 28 [.agg [.dsl 1 (nbL ds), .dsl 1 (nbL ap)], .dsl 1 (list.map inL), .dsl 1 (frz.map inL), .v (.int .i64 bu)] k (.tup [.v (.slice none 0 0), .v (.int .i64 0), .v (.int .i64 6)]) [] k := by
  have hnl := nbL_len ds
  have hd := (snd_of hS hA h h3 hf).l
  have hV := specValidProblem_ro ds ap hS hA
  rw [h] at hV
  have hL := l19State_ro ds ap list hn
  rw [h3] at hL
  have hR := l00Rises_ro frz 0 (IntKind.i64.wrap (((nbL ds).length : Int) - 1)) hf
  have hw : IntKind.i64.wrap (((nbL ds).length : Int) - 1) = (list.length : Int) - 1 := by rw [hnl, IntWalk.i64_in _ (by omega), hd]
  have h4' : risB frz 0 (IntKind.i64.wrap (((nbL ds).length : Int) - 1)) = false := by rw [risB_eq, hw]; exact h4
  rw [h4'] at hR
  have b2 : (!inB bu 1 20000) = false := by rw [h2]; rfl
  refine RO.ofp Try.func28 Try.ntmps28 rfl (goFn_of Try.func28 rfl (by kernel_rfl)) rfl rfl rfl ?_
  ((repeat' (first
    | (show SQ _ _ _ _ _ _ _ _; apply sq_frzp (t := 4); exact rfl; exact rfl; exact (by first | rfl | exact all_noOwn_map (fun _ => rfl) | assumption | exact hclo); exact (by first | rfl | assumption); exact rfl; (try simp only [put, rowsOf, plR, List.all_cons, selE, ovr, setH, del, cellsA, splice, isV, List.nil_append, List.cons_append, List.map_cons, List.map_nil, List.length_cons, List.length_nil, List.set_cons_zero, List.set_cons_succ, List.take_succ_cons, List.take_zero, List.take_nil, List.drop_succ_cons, List.drop_zero, List.drop_nil, List.append_nil, List.all_cons, List.all_nil, Bool.and_true, Bool.true_and, Bool.and_false, Bool.false_and, Nat.reduceAdd, Nat.zero_add, Nat.add_zero, Nat.reduceEqDiff, if_true, if_false, reduceIte]))
    | (show SQ _ _ _ _ _ _ _ _; first | apply sq_nil | (apply q_move; exact rfl; exact rfl) | (apply q_assign; exact rfl; exact rfl) | (apply q_pick_f; exact rfl; exact rfl; exact rfl; exact (by first | assumption | exact rfl)) | (apply q_fieldAddr; exact rfl; exact rfl; exact (ty rfl); exact rfl; exact rfl; exact rfl; exact rfl) | (apply q_not; exact rfl; exact rfl) | (apply q_lend; exact rfl; exact rfl; exact (ty rfl); exact rfl) | (apply q_sub; exact rfl; exact rfl; exact rfl) | (apply q_ld1d; exact rfl; exact rfl; exact (ty rfl); exact rfl; exact rfl) | (apply q_g; exact rfl; exact rfl; exact rfl; exact rfl))
    | (show SQ _ _ _ _ _ _ _ _; (first | (apply q_ldad; exact rfl; exact rfl; exact (ty rfl); exact rfl; exact rfl) | (apply q_box; exact rfl; exact rfl; exact rfl) | (apply q_callU; exact rfl; exact rfl; exact rfl; exact FzL.of rfl; exact hV _) | (apply q_callU; exact rfl; exact rfl; exact rfl; exact FzL.of rfl; exact l00In_ro _ _ _ _) | (apply q_callU; exact rfl; exact rfl; exact rfl; exact FzL.of rfl; exact hL _) | (apply q_callU; exact rfl; exact rfl; exact rfl; exact FzL.of rfl; exact hR _)); (try simp only [put, rowsOf, plR, List.all_cons, selE, ovr, setH, del, cellsA, splice, isV, List.nil_append, List.cons_append, List.map_cons, List.map_nil, List.length_cons, List.length_nil, List.set_cons_zero, List.set_cons_succ, List.take_succ_cons, List.take_zero, List.take_nil, List.drop_succ_cons, List.drop_zero, List.drop_nil, List.append_nil, List.all_cons, List.all_nil, Bool.and_true, Bool.true_and, Bool.and_false, Bool.false_and, Nat.reduceAdd, Nat.zero_add, Nat.add_zero, Nat.reduceEqDiff, if_true, if_false, reduceIte]))
    | (show AW _ _ _ _ _ _ _ _; first | refine aw_region ?_ | (refine aw_seqk ?_; intro K hK) | (apply aw_cond_t; exact rfl; exact rfl) | (apply aw_cond_f; exact rfl; exact rfl) | (apply aw_cond_f; exact rfl; exact (by assumption)) | refine aw_ret ?_ | refine aw_skip ?_)
    | refine thn_n ?_
    | (refine hK _ _ _ ?_; clear hK K)
    | refine thn_r ?_)); all_goals (repeat (clear hK K)))
  all_goals refine fin_r (fin_p (.r3 _ _ _ _ _ _ (.tmp _ _ rfl) (.tmp _ _ rfl) (.tmp _ _ rfl)) ?_ rfl rfl rfl)
  all_goals rfl
theorem SRep_okR (bu : Int) (h : prB ds ap = true) (h2 : inB bu 1 20000 = true) (h3 : stB ds list = true) (h4 : frB list frz = true) (hv : (topS ds ap list frz (list.length + 1) 0 bu).1 = true) (k : Nat) : RO Try.prog 28 [.agg [.dsl 1 (nbL ds), .dsl 1 (nbL ap)], .dsl 1 (list.map inL), .dsl 1 (frz.map inL), .v (.int .i64 bu)] k (.tup [.sl k 0 list.length, .v (.int .i64 (chgN (topS ds ap list frz (list.length + 1) 0 bu).2.2 list list.length)), .v (.int .i64 0)]) [(k, ⟨2, 1, true, (topS ds ap list frz (list.length + 1) 0 bu).2.2.map inL⟩)] (k + 1) := by
  have hnl0 := nbL_len ds
  have hml : (list.map inL).length = list.length := List.length_map _
  have hP := snd_of hS hA h h3 hf
  have hN := hP.n
  have hL := hP.l
  have hnl : (nbL ds).length = list.length := by omega
  have hn1 : 1 ≤ list.length := by
    have := h
    simp only [prB, domsB, Bool.and_eq_true, decide_eq_true_eq] at this; omega
  have hV := specValidProblem_ro ds ap hS hA
  rw [h] at hV
  have hSt := l19State_ro ds ap list hn
  rw [h3] at hSt
  have hR := l00Rises_ro frz 0 (IntKind.i64.wrap (((nbL ds).length : Int) - 1)) hf
  have hw : IntKind.i64.wrap (((nbL ds).length : Int) - 1) = (list.length : Int) - 1 := by rw [hnl, IntWalk.i64_in _ (by omega)]
  have h4' : risB frz 0 (IntKind.i64.wrap (((nbL ds).length : Int) - 1)) = true := by rw [risB_eq, hw]; exact h4
  rw [h4'] at hR
  have b2 : (!inB bu 1 20000) = false := by rw [h2]; rfl
  have hbu : 1 ≤ bu ∧ bu ≤ 20000 := by simpa [inB] using h2
  generalize hQQ : topS ds ap list frz (list.length + 1) 0 bu = Q at *
  refine RO.ofm (.tup [.sl 0 0 list.length, .v (.int .i64 (chgN Q.2.2 list list.length)), .v (.int .i64 0)]) ([(0, ⟨2, 1, true, Q.2.2.map inL⟩)]) 1 Try.func28 Try.ntmps28 rfl (goFn_of Try.func28 rfl (by kernel_rfl)) rfl rfl (by simp [renA, renL]) (by simp [shH, renB]) rfl ?_
  ((repeat' (first
    | (show SQ _ _ _ _ _ _ _ _; apply sq_frzp (t := 4); exact rfl; exact rfl; exact (by first | rfl | exact all_noOwn_map (fun _ => rfl) | assumption | exact hclo); exact (by first | rfl | assumption); exact rfl; (try simp only [put, rowsOf, plR, List.all_cons, selE, ovr, setH, del, cellsA, splice, isV, List.nil_append, List.cons_append, List.map_cons, List.map_nil, List.length_cons, List.length_nil, List.set_cons_zero, List.set_cons_succ, List.take_succ_cons, List.take_zero, List.take_nil, List.drop_succ_cons, List.drop_zero, List.drop_nil, List.append_nil, List.all_cons, List.all_nil, Bool.and_true, Bool.true_and, Bool.and_false, Bool.false_and, Nat.reduceAdd, Nat.zero_add, Nat.add_zero, Nat.reduceEqDiff, if_true, if_false, reduceIte]))
    | (show SQ _ _ _ _ _ _ _ _; first | apply sq_nil | (apply q_move; exact rfl; exact rfl) | (apply q_assign; exact rfl; exact rfl) | (apply q_pick_f; exact rfl; exact rfl; exact rfl; exact (by first | assumption | exact rfl)) | (apply q_fieldAddr; exact rfl; exact rfl; exact (ty rfl); exact rfl; exact rfl; exact rfl; exact rfl) | (apply q_not; exact rfl; exact rfl) | (apply q_lend; exact rfl; exact rfl; exact (ty rfl); exact rfl) | (apply q_sub; exact rfl; exact rfl; exact rfl) | (apply q_ld1d; exact rfl; exact rfl; exact (ty rfl); exact rfl; exact rfl) | (apply q_build; exact rfl; exact (ty rfl); exact rfl; exact rfl; exact rfl) | (apply q_g; exact rfl; exact rfl; exact rfl; exact rfl))
    | (show SQ _ _ _ _ _ _ _ _; (first | (apply q_ldad; exact rfl; exact rfl; exact (ty rfl); exact rfl; exact rfl) | (apply q_box; exact rfl; exact rfl; exact rfl) | (apply q_callU; exact rfl; exact rfl; exact rfl; exact FzL.of rfl; exact hV _) | (apply q_callU; exact rfl; exact rfl; exact rfl; exact FzL.of rfl; exact l00In_ro _ _ _ _) | (apply q_callU; exact rfl; exact rfl; exact rfl; exact FzL.of rfl; exact hSt _) | (apply q_callU; exact rfl; exact rfl; exact rfl; exact FzL.of rfl; exact hR _)); (try simp only [put, rowsOf, plR, List.all_cons, selE, ovr, setH, del, cellsA, splice, isV, List.nil_append, List.cons_append, List.map_cons, List.map_nil, List.length_cons, List.length_nil, List.set_cons_zero, List.set_cons_succ, List.take_succ_cons, List.take_zero, List.take_nil, List.drop_succ_cons, List.drop_zero, List.drop_nil, List.append_nil, List.all_cons, List.all_nil, Bool.and_true, Bool.true_and, Bool.and_false, Bool.false_and, Nat.reduceAdd, Nat.zero_add, Nat.add_zero, Nat.reduceEqDiff, if_true, if_false, reduceIte]))
    | (show AW _ _ _ _ _ _ _ _; first | refine aw_region ?_ | (refine aw_seqk ?_; intro K hK) | refine aw_block ?_ | (apply aw_cond_f; exact rfl; exact rfl) | (apply aw_cond_f; exact rfl; exact (by assumption)) | refine aw_skip ?_)
    | refine thn_n ?_
    | (refine hK _ _ _ ?_; clear hK K))); all_goals (repeat (clear hK K)))
  refine aw_nilB 1 0 3 2 1 rfl rfl rfl rfl rfl ?_
  refine aw_loop (ρ := sh1) (ι := (Nat × Int × Bool) × (Int × List Int)) (fun s => ([(13, .v (.int .i64 (s.1.1 : Int))), (12, .ptr 0 0 0), (11, .v (.int .i64 list.length)), (1, .dsl 1 (list.map inL))],
      [(0, ⟨88, 7, false, [[.dptr [.dsl 1 (nbL ds), .dsl 1 (nbL ap)], .dsl 1 (list.map inL), .dsl 1 (frz.map inL), .sl 1 0 0, .v (.int .i64 s.1.2.1), .v (.int .i64 bu), .v (.bool s.1.2.2)]]⟩), (1, ⟨2, 1, true, s.2.2.map inL⟩)], 2))
    (fun s => s.1.1 ≤ list.length + 1 ∧ s.1.2.1 = bu - max s.2.1 0 ∧ s.1.2.2 = decide (s.2.1 < 0) ∧ -1 ≤ s.2.1 ∧ s.2.1 ≤ bu ∧ ((0 ≤ s.2.1 ∧ topS ds ap list frz (list.length + 1 - s.1.1) s.1.1 s.2.1 = Q) ∨ (s.2.1 = -1 ∧ Q.1 = false ∧ Q.2.1 = -1))) (fun s => list.length + 1 - s.1.1) ((0, 0, false), (bu, []))
    ⟨Nat.zero_le _, by dsimp only; omega, by dsimp only; simp; omega, by dsimp only; omega, Int.le_refl _, .inl ⟨by dsimp only; omega, hQQ⟩⟩ ⟨by (repeat (refine ⟨by first | exact lk_i rfl rfl | exact lk_i rfl (by (try dsimp only); first | rfl | omega | (rw [IntWalk.i64_in _ (by omega)]; first | rfl | omega | (push_cast; omega)) | (simp; done) | (simp; omega)) | exact lk_d rfl rfl | exact lk_r rfl rfl rfl, ?_⟩)); exact trivial, by (repeat (refine ⟨by first | exact ⟨rfl, rfl, rfl⟩, ?_⟩)); exact trivial, by rfl, by exact pin_0⟩ ?_
  rintro ⟨⟨m, nd, fl⟩, ⟨b2, bf⟩⟩ ⟨hm, hnd, hfl, s0, s1, hg⟩
  dsimp only at hm hnd hfl s0 s1 hg
  rcases hg with ⟨hb0, hg⟩ | ⟨rfl, hgf⟩
  · obtain rfl : fl = false := by rw [hfl]; simpa using hb0
    by_cases c1 : m < list.length + 1
    · have d1 : decide ((m : Int) ≤ (list.length : Int)) = true := by rw [decide_eq_true_eq]; omega
      have hw : IntKind.i64.wrap ((m : Int) + 1) = ((m + 1 : Nat) : Int) := by rw [IntWalk.i64_in _ (by omega)]; omega
      have hX := srun_rc ds ap list frz hP bu hbu list.length (m : Int) (b2, []) (Nat.le_refl _) (by omega) (by omega) hb0 s1 (by rw [Nat.sub_self]; exact Nat.zero_le _) (fun e => by omega) (by simp) 0 2 (by decide)
      have hk := repF_keep (ds := ds) (ap := ap) (list := list) (frz := frz) list.length (m : Int) (b2, []) (Nat.le_refl _) hb0 (by rw [Nat.sub_self]; exact Nat.zero_le _) (fun e => by omega)
      rw [Nat.sub_self] at hX hk
      unfold lfR at hX
      rw [← hnd, ← hfl] at hX
      dsimp only [List.map_nil] at hX
      rw [show list.length + 1 - m = (list.length + 1 - (m + 1)) + 1 by omega, topS] at hg
      generalize repF ds ap list frz list.length (m : Int) (b2, []) = q at *
      obtain ⟨qo, qb, qf⟩ := q
      have kb := hk.bud
      have kl := hk.lo
      have ko := hk.ok
      dsimp only at hX kb kl hg ko
      have hqm : (qf.map inL).length = qf.length := List.length_map _
      cases qo with
      | true =>
        rw [if_pos rfl] at hg hX
        obtain ⟨kn, kz⟩ := ko rfl
        have hCh := specChanges_ro qf list kn (by omega)
        rw [kn] at hCh
        have hdt : ((qf.map inL).drop 0).take list.length = qf.map inL := by rw [List.drop_zero, List.take_of_length_le (by omega)]
        ((repeat' (first
    | (show SQ _ _ _ _ _ _ _ _; first | apply sq_nil | (apply q_move; exact rfl; exact rfl) | (apply q_pick_t; exact rfl; exact rfl; exact rfl; exact (by first | assumption | exact rfl)) | (apply q_fieldAddr; exact rfl; exact rfl; exact (ty rfl); exact rfl; exact rfl; exact rfl; exact rfl) | (apply q_nilc; exact rfl; exact rfl; exact rfl) | (apply q_not; exact rfl; exact rfl) | (apply q_leq; exact rfl; exact rfl; exact rfl) | (apply q_ld1p; exact rfl; exact rfl; exact (ty rfl); exact rfl; exact rfl; exact (by first | rfl | assumption | ((try simp only [Nat.zero_add]); refine List.getElem?_set_self ?_; (try simp only [List.length_set]); assumption)); exact rfl) | (apply q_g; exact rfl; exact rfl; exact rfl; exact (by assumption)))
    | (show SQ _ _ _ _ _ _ _ _; (first | (apply q_store; exact rfl; exact rfl; exact (ty rfl); exact rfl; exact (by first | rfl | assumption | ((try simp only [Nat.zero_add]); refine List.getElem?_set_self ?_; (try simp only [List.length_set]); assumption)); exact rfl; exact rfl; exact rfl) | (apply q_build0; exact rfl; exact (ty rfl); exact rfl) | (apply q_callC; exact rfl; exact rfl; exact rfl; exact hX _; (focus ((repeat (first | exact trivial | refine ⟨by first | exact rfl | assumption, ?_⟩)); done)); skip)); (try simp only [put, rowsOf, plR, List.all_cons, selE, ovr, setH, del, cellsA, splice, isV, List.nil_append, List.cons_append, List.map_cons, List.map_nil, List.length_cons, List.length_nil, List.set_cons_zero, List.set_cons_succ, List.take_succ_cons, List.take_zero, List.take_nil, List.drop_succ_cons, List.drop_zero, List.drop_nil, List.append_nil, List.all_cons, List.all_nil, Bool.and_true, Bool.true_and, Bool.and_false, Bool.false_and, Nat.reduceAdd, Nat.zero_add, Nat.add_zero, Nat.reduceEqDiff, if_true, if_false, reduceIte]))
    | (show DE _ _ _ _ _ _ _ _ _ _ _ _; first | (apply e_move; exact rfl; exact rfl; exact rfl) | (apply e_assign; exact rfl; exact rfl; exact rfl) | (apply e_fieldAddr; exact rfl; exact rfl; exact (ty rfl); exact rfl; exact rfl; exact rfl; exact rfl; exact rfl) | (apply e_nilc; exact rfl; exact rfl; exact rfl; exact rfl) | (apply e_ld1p; exact rfl; exact rfl; exact (ty rfl); exact rfl; exact rfl; exact (by first | rfl | assumption | ((try simp only [Nat.zero_add]); refine List.getElem?_set_self ?_; (try simp only [List.length_set]); assumption)); exact rfl; exact rfl))
    | (show DE _ _ _ _ _ _ _ _ _ _ _ _; (first | (apply dr_nil; exact trivial) | (apply e_callU; exact rfl; exact rfl; exact rfl; rotate_left; exact hCh _; exact rfl; rotate_right; focus ((repeat' (first | exact FzL.nil | exact (by assumption : FzC _) _ | refine FzL.cons ?_ ?_ | exact Fz.of rfl | exact Fz.nil | exact Fz.emp | (apply Fz.fnC; assumption) | (apply Fz.sl2; exact rfl; exact (by first | omega | (simp; done) | (simp; omega)); first | exact rfl | exact dt_full (by first | omega | (simp; done) | (simp; omega)) | assumption) | apply Fz.agg | (apply Fz.ptrL; exact rfl; first | exact rfl | assumption) | apply Fz.fnL)); done))); (try simp only [put, rowsOf, plR, List.all_cons, selE, ovr, setH, del, cellsA, splice, isV, List.nil_append, List.cons_append, List.map_cons, List.map_nil, List.length_cons, List.length_nil, List.set_cons_zero, List.set_cons_succ, List.take_succ_cons, List.take_zero, List.take_nil, List.drop_succ_cons, List.drop_zero, List.drop_nil, List.append_nil, List.all_cons, List.all_nil, Bool.and_true, Bool.true_and, Bool.and_false, Bool.false_and, Nat.reduceAdd, Nat.zero_add, Nat.add_zero, Nat.reduceEqDiff, if_true, if_false, reduceIte]))
    | (show AW _ _ _ _ _ _ _ _; first | refine aw_region ?_ | (refine aw_seqk ?_; intro K hK) | refine aw_block ?_ | (apply aw_cond_t; exact rfl; exact rfl) | refine aw_ret ?_ | refine aw_skip ?_ | refine aw_drawE (id := 14) [0, 1, 3, 7, 0, 16, 48, 112, 0, 496, 1023, 2047, 4095] [0, 0, 0, 1, 0, 0, 0, 1, 0, 1, 0, 0, 0] mixed (by kernel_rfl) ?_)
    | refine thn_n ?_
    | (refine hK _ _ _ ?_; clear hK K)
    | refine thn_r ?_
    | refine inb_r ?_)); all_goals (repeat (clear hK K)))
        all_goals (subst hg; exact fin_r ⟨⟨_, mv 0 3, .r3 _ _ _ _ _ _ (.tmp _ _ rfl) (.tmp _ _ rfl) (.tmp _ _ rfl), rfl, ⟨⟨rfl, rfl, rfl⟩, trivial⟩, rfl⟩, rfl, rfl, rfl⟩)
      | false =>
        rw [if_neg (by simp)] at hg hX
        ((repeat' (first
    | (show SQ _ _ _ _ _ _ _ _; first | apply sq_nil | (apply q_move; exact rfl; exact rfl) | (apply q_assign; exact rfl; exact rfl) | (apply q_pick_t; exact rfl; exact rfl; exact rfl; exact (by first | assumption | exact rfl)) | (apply q_fieldAddr; exact rfl; exact rfl; exact (ty rfl); exact rfl; exact rfl; exact rfl; exact rfl) | (apply q_nilc; exact rfl; exact rfl; exact rfl) | (apply q_not; exact rfl; exact rfl) | (apply q_add; exact rfl; exact rfl; exact rfl) | (apply q_leq; exact rfl; exact rfl; exact rfl) | (apply q_ld1p; exact rfl; exact rfl; exact (ty rfl); exact rfl; exact rfl; exact (by first | rfl | assumption | ((try simp only [Nat.zero_add]); refine List.getElem?_set_self ?_; (try simp only [List.length_set]); assumption)); exact rfl) | (apply q_g; exact rfl; exact rfl; exact rfl; exact (by assumption)))
    | (show SQ _ _ _ _ _ _ _ _; (first | (apply q_store; exact rfl; exact rfl; exact (ty rfl); exact rfl; exact (by first | rfl | assumption | ((try simp only [Nat.zero_add]); refine List.getElem?_set_self ?_; (try simp only [List.length_set]); assumption)); exact rfl; exact rfl; exact rfl) | (apply q_build0; exact rfl; exact (ty rfl); exact rfl) | (apply q_callC; exact rfl; exact rfl; exact rfl; exact hX _; (focus ((repeat (first | exact trivial | refine ⟨by first | exact rfl | assumption, ?_⟩)); done)); skip)); (try simp only [put, rowsOf, plR, List.all_cons, selE, ovr, setH, del, cellsA, splice, isV, List.nil_append, List.cons_append, List.map_cons, List.map_nil, List.length_cons, List.length_nil, List.set_cons_zero, List.set_cons_succ, List.take_succ_cons, List.take_zero, List.take_nil, List.drop_succ_cons, List.drop_zero, List.drop_nil, List.append_nil, List.all_cons, List.all_nil, Bool.and_true, Bool.true_and, Bool.and_false, Bool.false_and, Nat.reduceAdd, Nat.zero_add, Nat.add_zero, Nat.reduceEqDiff, if_true, if_false, reduceIte]))
    | (show AW _ _ _ _ _ _ _ _; first | refine aw_region ?_ | (refine aw_seqk ?_; intro K hK) | refine aw_block ?_ | (apply aw_cond_t; exact rfl; exact rfl) | (apply aw_cond_f; exact rfl; exact rfl) | refine aw_skip ?_)
    | refine thn_n ?_
    | (refine hK _ _ _ ?_; clear hK K)
    | refine inb_n ?_)); all_goals (repeat (clear hK K)))
        all_goals (refine ⟨((m + 1, bu - max qb 0, decide (qb < 0)), (qb, qf)), mv 1 3, ⟨c1, rfl, rfl, kl, by dsimp only; omega, ?_⟩, by dsimp only; omega, ?_⟩)
        · by_cases c4 : qb < 0
          · rw [if_pos c4] at hg
            subst hg
            exact .inr ⟨by dsimp only; omega, rfl, by dsimp only; omega⟩
          · rw [if_neg c4] at hg
            exact .inl ⟨by dsimp only; omega, hg⟩
        · (try dsimp only); rw [← hw]; exact ⟨by (repeat (refine ⟨by first | exact lk_i rfl rfl | exact lk_d rfl rfl | exact lk_r rfl rfl rfl, ?_⟩)); exact trivial, by (repeat (refine ⟨by first | exact ⟨rfl, rfl, rfl⟩, ?_⟩)); exact trivial, by rfl, by exact pin_0⟩
    · have d1 : decide ((m : Int) ≤ (list.length : Int)) = false := by rw [decide_eq_false_iff_not]; omega
      rw [show list.length + 1 - m = 0 by omega, topS] at hg
      ((repeat' (first
    | (show SQ _ _ _ _ _ _ _ _; first | apply sq_nil | (apply q_move; exact rfl; exact rfl) | (apply q_assign; exact rfl; exact rfl) | (apply q_pick_f; exact rfl; exact rfl; exact rfl; exact (by first | assumption | exact rfl)) | (apply q_fieldAddr; exact rfl; exact rfl; exact (ty rfl); exact rfl; exact rfl; exact rfl; exact rfl) | (apply q_nilc; exact rfl; exact rfl; exact rfl) | (apply q_leq; exact rfl; exact rfl; exact rfl) | (apply q_ld1p; exact rfl; exact rfl; exact (ty rfl); exact rfl; exact rfl; exact (by first | rfl | assumption | ((try simp only [Nat.zero_add]); refine List.getElem?_set_self ?_; (try simp only [List.length_set]); assumption)); exact rfl) | (apply q_s; exact rfl; exact rfl; exact rfl; exact (by assumption); exact rfl))
    | (show AW _ _ _ _ _ _ _ _; first | refine aw_region ?_ | (refine aw_seqk ?_; intro K hK) | (apply aw_cond_f; exact rfl; exact rfl) | refine aw_ret ?_ | refine aw_exit ?_ | refine aw_skip ?_)
    | refine thn_n ?_
    | (refine hK _ _ _ ?_; clear hK K)
    | refine thn_e ?_
    | refine inb_same ?_
    | (clear hK K; refine hK _ _ _ ?_; clear hK K))); all_goals (repeat (clear hK K)))
      all_goals exact absurd (hg ▸ hv) (by simp)
  · obtain rfl : fl = true := by rw [hfl]; rfl
    by_cases c5 : (m : Int) ≤ (list.length : Int)
    · have d1 : decide ((m : Int) ≤ (list.length : Int)) = true := by simpa using c5
      ((repeat' (first
    | (show SQ _ _ _ _ _ _ _ _; first | apply sq_nil | (apply q_move; exact rfl; exact rfl) | (apply q_assign; exact rfl; exact rfl) | (apply q_pick_t; exact rfl; exact rfl; exact rfl; exact (by first | assumption | exact rfl)) | (apply q_fieldAddr; exact rfl; exact rfl; exact (ty rfl); exact rfl; exact rfl; exact rfl; exact rfl) | (apply q_nilc; exact rfl; exact rfl; exact rfl) | (apply q_not; exact rfl; exact rfl) | (apply q_leq; exact rfl; exact rfl; exact rfl) | (apply q_ld1p; exact rfl; exact rfl; exact (ty rfl); exact rfl; exact rfl; exact (by first | rfl | assumption | ((try simp only [Nat.zero_add]); refine List.getElem?_set_self ?_; (try simp only [List.length_set]); assumption)); exact rfl) | (apply q_g; exact rfl; exact rfl; exact rfl; exact (by assumption)))
    | (show AW _ _ _ _ _ _ _ _; first | refine aw_region ?_ | (refine aw_seqk ?_; intro K hK) | (apply aw_cond_t; exact rfl; exact rfl) | (apply aw_cond_f; exact rfl; exact rfl) | refine aw_ret ?_ | refine aw_exit ?_)
    | refine thn_n ?_
    | (refine hK _ _ _ ?_; clear hK K)
    | refine thn_e ?_
    | refine thn_r ?_
    | refine inb_same ?_
    | (clear hK K; refine hK _ _ _ ?_; clear hK K))); all_goals (repeat (clear hK K)))
      all_goals exact absurd (hgf.1.symm.trans hv) (by simp)
    · have d1 : decide ((m : Int) ≤ (list.length : Int)) = false := by simpa using c5
      ((repeat' (first
    | (show SQ _ _ _ _ _ _ _ _; first | apply sq_nil | (apply q_move; exact rfl; exact rfl) | (apply q_assign; exact rfl; exact rfl) | (apply q_pick_f; exact rfl; exact rfl; exact rfl; exact (by first | assumption | exact rfl)) | (apply q_fieldAddr; exact rfl; exact rfl; exact (ty rfl); exact rfl; exact rfl; exact rfl; exact rfl) | (apply q_nilc; exact rfl; exact rfl; exact rfl) | (apply q_leq; exact rfl; exact rfl; exact rfl) | (apply q_ld1p; exact rfl; exact rfl; exact (ty rfl); exact rfl; exact rfl; exact (by first | rfl | assumption | ((try simp only [Nat.zero_add]); refine List.getElem?_set_self ?_; (try simp only [List.length_set]); assumption)); exact rfl) | (apply q_s; exact rfl; exact rfl; exact rfl; exact (by assumption); exact rfl))
    | (show AW _ _ _ _ _ _ _ _; first | refine aw_region ?_ | (refine aw_seqk ?_; intro K hK) | (apply aw_cond_t; exact rfl; exact rfl) | (apply aw_cond_f; exact rfl; exact rfl) | refine aw_ret ?_ | refine aw_exit ?_)
    | refine thn_n ?_
    | (refine hK _ _ _ ?_; clear hK K)
    | refine thn_e ?_
    | refine thn_r ?_
    | refine inb_same ?_
    | (clear hK K; refine hK _ _ _ ?_; clear hK K))); all_goals (repeat (clear hK K)))
      all_goals exact absurd (hgf.1.symm.trans hv) (by simp)
theorem SRep_full (bu : Int) (h : prB ds ap = true) (h2 : inB bu 1 20000 = true) (h3 : stB ds list = true) (h4 : frB list frz = true) (hv : ((topS ds ap list frz (list.length + 1) 0 bu).1 = false ∧ (topS ds ap list frz (list.length + 1) 0 bu).2.1 < 0)) (k : Nat) : RO Try.prog 28 [.agg [.dsl 1 (nbL ds), .dsl 1 (nbL ap)], .dsl 1 (list.map inL), .dsl 1 (frz.map inL), .v (.int .i64 bu)] k (.tup [.v (.slice none 0 0), .v (.int .i64 0), .v (.int .i64 5)]) [] k := by
  have hnl0 := nbL_len ds
  have hml : (list.map inL).length = list.length := List.length_map _
  have hP := snd_of hS hA h h3 hf
  have hN := hP.n
  have hL := hP.l
  have hnl : (nbL ds).length = list.length := by omega
  have hn1 : 1 ≤ list.length := by
    have := h
    simp only [prB, domsB, Bool.and_eq_true, decide_eq_true_eq] at this; omega
  have hV := specValidProblem_ro ds ap hS hA
  rw [h] at hV
  have hSt := l19State_ro ds ap list hn
  rw [h3] at hSt
  have hR := l00Rises_ro frz 0 (IntKind.i64.wrap (((nbL ds).length : Int) - 1)) hf
  have hw : IntKind.i64.wrap (((nbL ds).length : Int) - 1) = (list.length : Int) - 1 := by rw [hnl, IntWalk.i64_in _ (by omega)]
  have h4' : risB frz 0 (IntKind.i64.wrap (((nbL ds).length : Int) - 1)) = true := by rw [risB_eq, hw]; exact h4
  rw [h4'] at hR
  have b2 : (!inB bu 1 20000) = false := by rw [h2]; rfl
  have hbu : 1 ≤ bu ∧ bu ≤ 20000 := by simpa [inB] using h2
  generalize hQQ : topS ds ap list frz (list.length + 1) 0 bu = Q at *
  refine RO.ofp Try.func28 Try.ntmps28 rfl (goFn_of Try.func28 rfl (by kernel_rfl)) rfl rfl rfl ?_
  ((repeat' (first
    | (show SQ _ _ _ _ _ _ _ _; apply sq_frzp (t := 4); exact rfl; exact rfl; exact (by first | rfl | exact all_noOwn_map (fun _ => rfl) | assumption | exact hclo); exact (by first | rfl | assumption); exact rfl; (try simp only [put, rowsOf, plR, List.all_cons, selE, ovr, setH, del, cellsA, splice, isV, List.nil_append, List.cons_append, List.map_cons, List.map_nil, List.length_cons, List.length_nil, List.set_cons_zero, List.set_cons_succ, List.take_succ_cons, List.take_zero, List.take_nil, List.drop_succ_cons, List.drop_zero, List.drop_nil, List.append_nil, List.all_cons, List.all_nil, Bool.and_true, Bool.true_and, Bool.and_false, Bool.false_and, Nat.reduceAdd, Nat.zero_add, Nat.add_zero, Nat.reduceEqDiff, if_true, if_false, reduceIte]))
    | (show SQ _ _ _ _ _ _ _ _; first | apply sq_nil | (apply q_move; exact rfl; exact rfl) | (apply q_assign; exact rfl; exact rfl) | (apply q_pick_f; exact rfl; exact rfl; exact rfl; exact (by first | assumption | exact rfl)) | (apply q_fieldAddr; exact rfl; exact rfl; exact (ty rfl); exact rfl; exact rfl; exact rfl; exact rfl) | (apply q_not; exact rfl; exact rfl) | (apply q_lend; exact rfl; exact rfl; exact (ty rfl); exact rfl) | (apply q_sub; exact rfl; exact rfl; exact rfl) | (apply q_ld1d; exact rfl; exact rfl; exact (ty rfl); exact rfl; exact rfl) | (apply q_build; exact rfl; exact (ty rfl); exact rfl; exact rfl; exact rfl) | (apply q_g; exact rfl; exact rfl; exact rfl; exact rfl))
    | (show SQ _ _ _ _ _ _ _ _; (first | (apply q_ldad; exact rfl; exact rfl; exact (ty rfl); exact rfl; exact rfl) | (apply q_box; exact rfl; exact rfl; exact rfl) | (apply q_callU; exact rfl; exact rfl; exact rfl; exact FzL.of rfl; exact hV _) | (apply q_callU; exact rfl; exact rfl; exact rfl; exact FzL.of rfl; exact l00In_ro _ _ _ _) | (apply q_callU; exact rfl; exact rfl; exact rfl; exact FzL.of rfl; exact hSt _) | (apply q_callU; exact rfl; exact rfl; exact rfl; exact FzL.of rfl; exact hR _)); (try simp only [put, rowsOf, plR, List.all_cons, selE, ovr, setH, del, cellsA, splice, isV, List.nil_append, List.cons_append, List.map_cons, List.map_nil, List.length_cons, List.length_nil, List.set_cons_zero, List.set_cons_succ, List.take_succ_cons, List.take_zero, List.take_nil, List.drop_succ_cons, List.drop_zero, List.drop_nil, List.append_nil, List.all_cons, List.all_nil, Bool.and_true, Bool.true_and, Bool.and_false, Bool.false_and, Nat.reduceAdd, Nat.zero_add, Nat.add_zero, Nat.reduceEqDiff, if_true, if_false, reduceIte]))
    | (show AW _ _ _ _ _ _ _ _; first | refine aw_region ?_ | (refine aw_seqk ?_; intro K hK) | refine aw_block ?_ | (apply aw_cond_f; exact rfl; exact rfl) | (apply aw_cond_f; exact rfl; exact (by assumption)) | refine aw_skip ?_)
    | refine thn_n ?_
    | (refine hK _ _ _ ?_; clear hK K))); all_goals (repeat (clear hK K)))
  refine aw_nilB 1 0 3 2 1 rfl rfl rfl rfl rfl ?_
  refine aw_loop (ρ := sh1) (ι := (Nat × Int × Bool) × (Int × List Int)) (fun s => ([(13, .v (.int .i64 (s.1.1 : Int))), (12, .ptr 0 0 0), (11, .v (.int .i64 list.length)), (1, .dsl 1 (list.map inL))],
      [(0, ⟨88, 7, false, [[.dptr [.dsl 1 (nbL ds), .dsl 1 (nbL ap)], .dsl 1 (list.map inL), .dsl 1 (frz.map inL), .sl 1 0 0, .v (.int .i64 s.1.2.1), .v (.int .i64 bu), .v (.bool s.1.2.2)]]⟩), (1, ⟨2, 1, true, s.2.2.map inL⟩)], 2))
    (fun s => s.1.1 ≤ list.length + 1 ∧ s.1.2.1 = bu - max s.2.1 0 ∧ s.1.2.2 = decide (s.2.1 < 0) ∧ -1 ≤ s.2.1 ∧ s.2.1 ≤ bu ∧ ((0 ≤ s.2.1 ∧ topS ds ap list frz (list.length + 1 - s.1.1) s.1.1 s.2.1 = Q) ∨ (s.2.1 = -1 ∧ Q.1 = false ∧ Q.2.1 = -1))) (fun s => list.length + 1 - s.1.1) ((0, 0, false), (bu, []))
    ⟨Nat.zero_le _, by dsimp only; omega, by dsimp only; simp; omega, by dsimp only; omega, Int.le_refl _, .inl ⟨by dsimp only; omega, hQQ⟩⟩ ⟨by (repeat (refine ⟨by first | exact lk_i rfl rfl | exact lk_i rfl (by (try dsimp only); first | rfl | omega | (rw [IntWalk.i64_in _ (by omega)]; first | rfl | omega | (push_cast; omega)) | (simp; done) | (simp; omega)) | exact lk_d rfl rfl | exact lk_r rfl rfl rfl, ?_⟩)); exact trivial, by (repeat (refine ⟨by first | exact ⟨rfl, rfl, rfl⟩, ?_⟩)); exact trivial, by rfl, by exact pin_0⟩ ?_
  rintro ⟨⟨m, nd, fl⟩, ⟨b2, bf⟩⟩ ⟨hm, hnd, hfl, s0, s1, hg⟩
  dsimp only at hm hnd hfl s0 s1 hg
  rcases hg with ⟨hb0, hg⟩ | ⟨rfl, hgf⟩
  · obtain rfl : fl = false := by rw [hfl]; simpa using hb0
    by_cases c1 : m < list.length + 1
    · have d1 : decide ((m : Int) ≤ (list.length : Int)) = true := by rw [decide_eq_true_eq]; omega
      have hw : IntKind.i64.wrap ((m : Int) + 1) = ((m + 1 : Nat) : Int) := by rw [IntWalk.i64_in _ (by omega)]; omega
      have hX := srun_rc ds ap list frz hP bu hbu list.length (m : Int) (b2, []) (Nat.le_refl _) (by omega) (by omega) hb0 s1 (by rw [Nat.sub_self]; exact Nat.zero_le _) (fun e => by omega) (by simp) 0 2 (by decide)
      have hk := repF_keep (ds := ds) (ap := ap) (list := list) (frz := frz) list.length (m : Int) (b2, []) (Nat.le_refl _) hb0 (by rw [Nat.sub_self]; exact Nat.zero_le _) (fun e => by omega)
      rw [Nat.sub_self] at hX hk
      unfold lfR at hX
      rw [← hnd, ← hfl] at hX
      dsimp only [List.map_nil] at hX
      rw [show list.length + 1 - m = (list.length + 1 - (m + 1)) + 1 by omega, topS] at hg
      generalize repF ds ap list frz list.length (m : Int) (b2, []) = q at *
      obtain ⟨qo, qb, qf⟩ := q
      have kb := hk.bud
      have kl := hk.lo
      have ko := hk.ok
      dsimp only at hX kb kl hg ko
      have hqm : (qf.map inL).length = qf.length := List.length_map _
      cases qo with
      | true =>
        rw [if_pos rfl] at hg hX
        obtain ⟨kn, kz⟩ := ko rfl
        have hCh := specChanges_ro qf list kn (by omega)
        rw [kn] at hCh
        have hdt : ((qf.map inL).drop 0).take list.length = qf.map inL := by rw [List.drop_zero, List.take_of_length_le (by omega)]
        ((repeat' (first
    | (show SQ _ _ _ _ _ _ _ _; first | apply sq_nil | (apply q_move; exact rfl; exact rfl) | (apply q_pick_t; exact rfl; exact rfl; exact rfl; exact (by first | assumption | exact rfl)) | (apply q_fieldAddr; exact rfl; exact rfl; exact (ty rfl); exact rfl; exact rfl; exact rfl; exact rfl) | (apply q_nilc; exact rfl; exact rfl; exact rfl) | (apply q_not; exact rfl; exact rfl) | (apply q_leq; exact rfl; exact rfl; exact rfl) | (apply q_ld1p; exact rfl; exact rfl; exact (ty rfl); exact rfl; exact rfl; exact (by first | rfl | assumption | ((try simp only [Nat.zero_add]); refine List.getElem?_set_self ?_; (try simp only [List.length_set]); assumption)); exact rfl) | (apply q_g; exact rfl; exact rfl; exact rfl; exact (by assumption)))
    | (show SQ _ _ _ _ _ _ _ _; (first | (apply q_store; exact rfl; exact rfl; exact (ty rfl); exact rfl; exact (by first | rfl | assumption | ((try simp only [Nat.zero_add]); refine List.getElem?_set_self ?_; (try simp only [List.length_set]); assumption)); exact rfl; exact rfl; exact rfl) | (apply q_build0; exact rfl; exact (ty rfl); exact rfl) | (apply q_callC; exact rfl; exact rfl; exact rfl; exact hX _; (focus ((repeat (first | exact trivial | refine ⟨by first | exact rfl | assumption, ?_⟩)); done)); skip)); (try simp only [put, rowsOf, plR, List.all_cons, selE, ovr, setH, del, cellsA, splice, isV, List.nil_append, List.cons_append, List.map_cons, List.map_nil, List.length_cons, List.length_nil, List.set_cons_zero, List.set_cons_succ, List.take_succ_cons, List.take_zero, List.take_nil, List.drop_succ_cons, List.drop_zero, List.drop_nil, List.append_nil, List.all_cons, List.all_nil, Bool.and_true, Bool.true_and, Bool.and_false, Bool.false_and, Nat.reduceAdd, Nat.zero_add, Nat.add_zero, Nat.reduceEqDiff, if_true, if_false, reduceIte]))
    | (show DE _ _ _ _ _ _ _ _ _ _ _ _; first | (apply e_move; exact rfl; exact rfl; exact rfl) | (apply e_assign; exact rfl; exact rfl; exact rfl) | (apply e_fieldAddr; exact rfl; exact rfl; exact (ty rfl); exact rfl; exact rfl; exact rfl; exact rfl; exact rfl) | (apply e_nilc; exact rfl; exact rfl; exact rfl; exact rfl) | (apply e_ld1p; exact rfl; exact rfl; exact (ty rfl); exact rfl; exact rfl; exact (by first | rfl | assumption | ((try simp only [Nat.zero_add]); refine List.getElem?_set_self ?_; (try simp only [List.length_set]); assumption)); exact rfl; exact rfl))
    | (show DE _ _ _ _ _ _ _ _ _ _ _ _; (first | (apply dr_nil; exact trivial) | (apply e_callU; exact rfl; exact rfl; exact rfl; rotate_left; exact hCh _; exact rfl; rotate_right; focus ((repeat' (first | exact FzL.nil | exact (by assumption : FzC _) _ | refine FzL.cons ?_ ?_ | exact Fz.of rfl | exact Fz.nil | exact Fz.emp | (apply Fz.fnC; assumption) | (apply Fz.sl2; exact rfl; exact (by first | omega | (simp; done) | (simp; omega)); first | exact rfl | exact dt_full (by first | omega | (simp; done) | (simp; omega)) | assumption) | apply Fz.agg | (apply Fz.ptrL; exact rfl; first | exact rfl | assumption) | apply Fz.fnL)); done))); (try simp only [put, rowsOf, plR, List.all_cons, selE, ovr, setH, del, cellsA, splice, isV, List.nil_append, List.cons_append, List.map_cons, List.map_nil, List.length_cons, List.length_nil, List.set_cons_zero, List.set_cons_succ, List.take_succ_cons, List.take_zero, List.take_nil, List.drop_succ_cons, List.drop_zero, List.drop_nil, List.append_nil, List.all_cons, List.all_nil, Bool.and_true, Bool.true_and, Bool.and_false, Bool.false_and, Nat.reduceAdd, Nat.zero_add, Nat.add_zero, Nat.reduceEqDiff, if_true, if_false, reduceIte]))
    | (show AW _ _ _ _ _ _ _ _; first | refine aw_region ?_ | (refine aw_seqk ?_; intro K hK) | refine aw_block ?_ | (apply aw_cond_t; exact rfl; exact rfl) | refine aw_ret ?_ | refine aw_skip ?_ | refine aw_drawE (id := 14) [0, 1, 3, 7, 0, 16, 48, 112, 0, 496, 1023, 2047, 4095] [0, 0, 0, 1, 0, 0, 0, 1, 0, 1, 0, 0, 0] mixed (by kernel_rfl) ?_)
    | refine thn_n ?_
    | (refine hK _ _ _ ?_; clear hK K)
    | refine thn_r ?_
    | refine inb_r ?_)); all_goals (repeat (clear hK K)))
        all_goals exact absurd (hg ▸ hv.1) (by simp)
      | false =>
        rw [if_neg (by simp)] at hg hX
        ((repeat' (first
    | (show SQ _ _ _ _ _ _ _ _; first | apply sq_nil | (apply q_move; exact rfl; exact rfl) | (apply q_assign; exact rfl; exact rfl) | (apply q_pick_t; exact rfl; exact rfl; exact rfl; exact (by first | assumption | exact rfl)) | (apply q_fieldAddr; exact rfl; exact rfl; exact (ty rfl); exact rfl; exact rfl; exact rfl; exact rfl) | (apply q_nilc; exact rfl; exact rfl; exact rfl) | (apply q_not; exact rfl; exact rfl) | (apply q_add; exact rfl; exact rfl; exact rfl) | (apply q_leq; exact rfl; exact rfl; exact rfl) | (apply q_ld1p; exact rfl; exact rfl; exact (ty rfl); exact rfl; exact rfl; exact (by first | rfl | assumption | ((try simp only [Nat.zero_add]); refine List.getElem?_set_self ?_; (try simp only [List.length_set]); assumption)); exact rfl) | (apply q_g; exact rfl; exact rfl; exact rfl; exact (by assumption)))
    | (show SQ _ _ _ _ _ _ _ _; (first | (apply q_store; exact rfl; exact rfl; exact (ty rfl); exact rfl; exact (by first | rfl | assumption | ((try simp only [Nat.zero_add]); refine List.getElem?_set_self ?_; (try simp only [List.length_set]); assumption)); exact rfl; exact rfl; exact rfl) | (apply q_build0; exact rfl; exact (ty rfl); exact rfl) | (apply q_callC; exact rfl; exact rfl; exact rfl; exact hX _; (focus ((repeat (first | exact trivial | refine ⟨by first | exact rfl | assumption, ?_⟩)); done)); skip)); (try simp only [put, rowsOf, plR, List.all_cons, selE, ovr, setH, del, cellsA, splice, isV, List.nil_append, List.cons_append, List.map_cons, List.map_nil, List.length_cons, List.length_nil, List.set_cons_zero, List.set_cons_succ, List.take_succ_cons, List.take_zero, List.take_nil, List.drop_succ_cons, List.drop_zero, List.drop_nil, List.append_nil, List.all_cons, List.all_nil, Bool.and_true, Bool.true_and, Bool.and_false, Bool.false_and, Nat.reduceAdd, Nat.zero_add, Nat.add_zero, Nat.reduceEqDiff, if_true, if_false, reduceIte]))
    | (show AW _ _ _ _ _ _ _ _; first | refine aw_region ?_ | (refine aw_seqk ?_; intro K hK) | refine aw_block ?_ | (apply aw_cond_t; exact rfl; exact rfl) | (apply aw_cond_f; exact rfl; exact rfl) | refine aw_skip ?_)
    | refine thn_n ?_
    | (refine hK _ _ _ ?_; clear hK K)
    | refine inb_n ?_)); all_goals (repeat (clear hK K)))
        all_goals (refine ⟨((m + 1, bu - max qb 0, decide (qb < 0)), (qb, qf)), mv 1 3, ⟨c1, rfl, rfl, kl, by dsimp only; omega, ?_⟩, by dsimp only; omega, ?_⟩)
        · by_cases c4 : qb < 0
          · rw [if_pos c4] at hg
            subst hg
            exact .inr ⟨by dsimp only; omega, rfl, by dsimp only; omega⟩
          · rw [if_neg c4] at hg
            exact .inl ⟨by dsimp only; omega, hg⟩
        · (try dsimp only); rw [← hw]; exact ⟨by (repeat (refine ⟨by first | exact lk_i rfl rfl | exact lk_d rfl rfl | exact lk_r rfl rfl rfl, ?_⟩)); exact trivial, by (repeat (refine ⟨by first | exact ⟨rfl, rfl, rfl⟩, ?_⟩)); exact trivial, by rfl, by exact pin_0⟩
    · have d1 : decide ((m : Int) ≤ (list.length : Int)) = false := by rw [decide_eq_false_iff_not]; omega
      rw [show list.length + 1 - m = 0 by omega, topS] at hg
      ((repeat' (first
    | (show SQ _ _ _ _ _ _ _ _; first | apply sq_nil | (apply q_move; exact rfl; exact rfl) | (apply q_assign; exact rfl; exact rfl) | (apply q_pick_f; exact rfl; exact rfl; exact rfl; exact (by first | assumption | exact rfl)) | (apply q_fieldAddr; exact rfl; exact rfl; exact (ty rfl); exact rfl; exact rfl; exact rfl; exact rfl) | (apply q_nilc; exact rfl; exact rfl; exact rfl) | (apply q_leq; exact rfl; exact rfl; exact rfl) | (apply q_ld1p; exact rfl; exact rfl; exact (ty rfl); exact rfl; exact rfl; exact (by first | rfl | assumption | ((try simp only [Nat.zero_add]); refine List.getElem?_set_self ?_; (try simp only [List.length_set]); assumption)); exact rfl) | (apply q_s; exact rfl; exact rfl; exact rfl; exact (by assumption); exact rfl))
    | (show AW _ _ _ _ _ _ _ _; first | refine aw_region ?_ | (refine aw_seqk ?_; intro K hK) | (apply aw_cond_f; exact rfl; exact rfl) | refine aw_ret ?_ | refine aw_exit ?_ | refine aw_skip ?_)
    | refine thn_n ?_
    | (refine hK _ _ _ ?_; clear hK K)
    | refine thn_e ?_
    | refine inb_same ?_
    | (clear hK K; refine hK _ _ _ ?_; clear hK K))); all_goals (repeat (clear hK K)))
      all_goals (subst hg; exact absurd hv.2 (by dsimp only; omega))
  · obtain rfl : fl = true := by rw [hfl]; rfl
    by_cases c5 : (m : Int) ≤ (list.length : Int)
    · have d1 : decide ((m : Int) ≤ (list.length : Int)) = true := by simpa using c5
      ((repeat' (first
    | (show SQ _ _ _ _ _ _ _ _; first | apply sq_nil | (apply q_move; exact rfl; exact rfl) | (apply q_assign; exact rfl; exact rfl) | (apply q_pick_t; exact rfl; exact rfl; exact rfl; exact (by first | assumption | exact rfl)) | (apply q_fieldAddr; exact rfl; exact rfl; exact (ty rfl); exact rfl; exact rfl; exact rfl; exact rfl) | (apply q_nilc; exact rfl; exact rfl; exact rfl) | (apply q_not; exact rfl; exact rfl) | (apply q_leq; exact rfl; exact rfl; exact rfl) | (apply q_ld1p; exact rfl; exact rfl; exact (ty rfl); exact rfl; exact rfl; exact (by first | rfl | assumption | ((try simp only [Nat.zero_add]); refine List.getElem?_set_self ?_; (try simp only [List.length_set]); assumption)); exact rfl) | (apply q_g; exact rfl; exact rfl; exact rfl; exact (by assumption)))
    | (show AW _ _ _ _ _ _ _ _; first | refine aw_region ?_ | (refine aw_seqk ?_; intro K hK) | (apply aw_cond_t; exact rfl; exact rfl) | (apply aw_cond_f; exact rfl; exact rfl) | refine aw_ret ?_ | refine aw_exit ?_)
    | refine thn_n ?_
    | (refine hK _ _ _ ?_; clear hK K)
    | refine thn_e ?_
    | refine thn_r ?_
    | refine inb_same ?_
    | (clear hK K; refine hK _ _ _ ?_; clear hK K))); all_goals (repeat (clear hK K)))
      all_goals (refine fin_r (fin_p (.r3 _ _ _ _ _ _ (.tmp _ _ rfl) (.tmp _ _ rfl) (.tmp _ _ rfl)) ?_ rfl rfl rfl); rfl)
    · have d1 : decide ((m : Int) ≤ (list.length : Int)) = false := by simpa using c5
      ((repeat' (first
    | (show SQ _ _ _ _ _ _ _ _; first | apply sq_nil | (apply q_move; exact rfl; exact rfl) | (apply q_assign; exact rfl; exact rfl) | (apply q_pick_f; exact rfl; exact rfl; exact rfl; exact (by first | assumption | exact rfl)) | (apply q_fieldAddr; exact rfl; exact rfl; exact (ty rfl); exact rfl; exact rfl; exact rfl; exact rfl) | (apply q_nilc; exact rfl; exact rfl; exact rfl) | (apply q_leq; exact rfl; exact rfl; exact rfl) | (apply q_ld1p; exact rfl; exact rfl; exact (ty rfl); exact rfl; exact rfl; exact (by first | rfl | assumption | ((try simp only [Nat.zero_add]); refine List.getElem?_set_self ?_; (try simp only [List.length_set]); assumption)); exact rfl) | (apply q_s; exact rfl; exact rfl; exact rfl; exact (by assumption); exact rfl))
    | (show AW _ _ _ _ _ _ _ _; first | refine aw_region ?_ | (refine aw_seqk ?_; intro K hK) | (apply aw_cond_t; exact rfl; exact rfl) | (apply aw_cond_f; exact rfl; exact rfl) | refine aw_ret ?_ | refine aw_exit ?_)
    | refine thn_n ?_
    | (refine hK _ _ _ ?_; clear hK K)
    | refine thn_e ?_
    | refine thn_r ?_
    | refine inb_same ?_
    | (clear hK K; refine hK _ _ _ ?_; clear hK K))); all_goals (repeat (clear hK K)))
      all_goals (refine fin_r (fin_p (.r3 _ _ _ _ _ _ (.tmp _ _ rfl) (.tmp _ _ rfl) (.tmp _ _ rfl)) ?_ rfl rfl rfl); rfl)
theorem SRep_none (bu : Int) (h : prB ds ap = true) (h2 : inB bu 1 20000 = true) (h3 : stB ds list = true) (h4 : frB list frz = true) (hv : ((topS ds ap list frz (list.length + 1) 0 bu).1 = false ∧ ¬ (topS ds ap list frz (list.length + 1) 0 bu).2.1 < 0)) (k : Nat) : RO Try.prog 28 [.agg [.dsl 1 (nbL ds), .dsl 1 (nbL ap)], .dsl 1 (list.map inL), .dsl 1 (frz.map inL), .v (.int .i64 bu)] k (.tup [.v (.slice none 0 0), .v (.int .i64 0), .v (.int .i64 3)]) [] k := by
  have hnl0 := nbL_len ds
  have hml : (list.map inL).length = list.length := List.length_map _
  have hP := snd_of hS hA h h3 hf
  have hN := hP.n
  have hL := hP.l
  have hnl : (nbL ds).length = list.length := by omega
  have hn1 : 1 ≤ list.length := by
    have := h
    simp only [prB, domsB, Bool.and_eq_true, decide_eq_true_eq] at this; omega
  have hV := specValidProblem_ro ds ap hS hA
  rw [h] at hV
  have hSt := l19State_ro ds ap list hn
  rw [h3] at hSt
  have hR := l00Rises_ro frz 0 (IntKind.i64.wrap (((nbL ds).length : Int) - 1)) hf
  have hw : IntKind.i64.wrap (((nbL ds).length : Int) - 1) = (list.length : Int) - 1 := by rw [hnl, IntWalk.i64_in _ (by omega)]
  have h4' : risB frz 0 (IntKind.i64.wrap (((nbL ds).length : Int) - 1)) = true := by rw [risB_eq, hw]; exact h4
  rw [h4'] at hR
  have b2 : (!inB bu 1 20000) = false := by rw [h2]; rfl
  have hbu : 1 ≤ bu ∧ bu ≤ 20000 := by simpa [inB] using h2
  generalize hQQ : topS ds ap list frz (list.length + 1) 0 bu = Q at *
  refine RO.ofp Try.func28 Try.ntmps28 rfl (goFn_of Try.func28 rfl (by kernel_rfl)) rfl rfl rfl ?_
  ((repeat' (first
    | (show SQ _ _ _ _ _ _ _ _; apply sq_frzp (t := 4); exact rfl; exact rfl; exact (by first | rfl | exact all_noOwn_map (fun _ => rfl) | assumption | exact hclo); exact (by first | rfl | assumption); exact rfl; (try simp only [put, rowsOf, plR, List.all_cons, selE, ovr, setH, del, cellsA, splice, isV, List.nil_append, List.cons_append, List.map_cons, List.map_nil, List.length_cons, List.length_nil, List.set_cons_zero, List.set_cons_succ, List.take_succ_cons, List.take_zero, List.take_nil, List.drop_succ_cons, List.drop_zero, List.drop_nil, List.append_nil, List.all_cons, List.all_nil, Bool.and_true, Bool.true_and, Bool.and_false, Bool.false_and, Nat.reduceAdd, Nat.zero_add, Nat.add_zero, Nat.reduceEqDiff, if_true, if_false, reduceIte]))
    | (show SQ _ _ _ _ _ _ _ _; first | apply sq_nil | (apply q_move; exact rfl; exact rfl) | (apply q_assign; exact rfl; exact rfl) | (apply q_pick_f; exact rfl; exact rfl; exact rfl; exact (by first | assumption | exact rfl)) | (apply q_fieldAddr; exact rfl; exact rfl; exact (ty rfl); exact rfl; exact rfl; exact rfl; exact rfl) | (apply q_not; exact rfl; exact rfl) | (apply q_lend; exact rfl; exact rfl; exact (ty rfl); exact rfl) | (apply q_sub; exact rfl; exact rfl; exact rfl) | (apply q_ld1d; exact rfl; exact rfl; exact (ty rfl); exact rfl; exact rfl) | (apply q_build; exact rfl; exact (ty rfl); exact rfl; exact rfl; exact rfl) | (apply q_g; exact rfl; exact rfl; exact rfl; exact rfl))
    | (show SQ _ _ _ _ _ _ _ _; (first | (apply q_ldad; exact rfl; exact rfl; exact (ty rfl); exact rfl; exact rfl) | (apply q_box; exact rfl; exact rfl; exact rfl) | (apply q_callU; exact rfl; exact rfl; exact rfl; exact FzL.of rfl; exact hV _) | (apply q_callU; exact rfl; exact rfl; exact rfl; exact FzL.of rfl; exact l00In_ro _ _ _ _) | (apply q_callU; exact rfl; exact rfl; exact rfl; exact FzL.of rfl; exact hSt _) | (apply q_callU; exact rfl; exact rfl; exact rfl; exact FzL.of rfl; exact hR _)); (try simp only [put, rowsOf, plR, List.all_cons, selE, ovr, setH, del, cellsA, splice, isV, List.nil_append, List.cons_append, List.map_cons, List.map_nil, List.length_cons, List.length_nil, List.set_cons_zero, List.set_cons_succ, List.take_succ_cons, List.take_zero, List.take_nil, List.drop_succ_cons, List.drop_zero, List.drop_nil, List.append_nil, List.all_cons, List.all_nil, Bool.and_true, Bool.true_and, Bool.and_false, Bool.false_and, Nat.reduceAdd, Nat.zero_add, Nat.add_zero, Nat.reduceEqDiff, if_true, if_false, reduceIte]))
    | (show AW _ _ _ _ _ _ _ _; first | refine aw_region ?_ | (refine aw_seqk ?_; intro K hK) | refine aw_block ?_ | (apply aw_cond_f; exact rfl; exact rfl) | (apply aw_cond_f; exact rfl; exact (by assumption)) | refine aw_skip ?_)
    | refine thn_n ?_
    | (refine hK _ _ _ ?_; clear hK K))); all_goals (repeat (clear hK K)))
  refine aw_nilB 1 0 3 2 1 rfl rfl rfl rfl rfl ?_
  refine aw_loop (ρ := sh1) (ι := (Nat × Int × Bool) × (Int × List Int)) (fun s => ([(13, .v (.int .i64 (s.1.1 : Int))), (12, .ptr 0 0 0), (11, .v (.int .i64 list.length)), (1, .dsl 1 (list.map inL))],
      [(0, ⟨88, 7, false, [[.dptr [.dsl 1 (nbL ds), .dsl 1 (nbL ap)], .dsl 1 (list.map inL), .dsl 1 (frz.map inL), .sl 1 0 0, .v (.int .i64 s.1.2.1), .v (.int .i64 bu), .v (.bool s.1.2.2)]]⟩), (1, ⟨2, 1, true, s.2.2.map inL⟩)], 2))
    (fun s => s.1.1 ≤ list.length + 1 ∧ s.1.2.1 = bu - max s.2.1 0 ∧ s.1.2.2 = decide (s.2.1 < 0) ∧ -1 ≤ s.2.1 ∧ s.2.1 ≤ bu ∧ ((0 ≤ s.2.1 ∧ topS ds ap list frz (list.length + 1 - s.1.1) s.1.1 s.2.1 = Q) ∨ (s.2.1 = -1 ∧ Q.1 = false ∧ Q.2.1 = -1))) (fun s => list.length + 1 - s.1.1) ((0, 0, false), (bu, []))
    ⟨Nat.zero_le _, by dsimp only; omega, by dsimp only; simp; omega, by dsimp only; omega, Int.le_refl _, .inl ⟨by dsimp only; omega, hQQ⟩⟩ ⟨by (repeat (refine ⟨by first | exact lk_i rfl rfl | exact lk_i rfl (by (try dsimp only); first | rfl | omega | (rw [IntWalk.i64_in _ (by omega)]; first | rfl | omega | (push_cast; omega)) | (simp; done) | (simp; omega)) | exact lk_d rfl rfl | exact lk_r rfl rfl rfl, ?_⟩)); exact trivial, by (repeat (refine ⟨by first | exact ⟨rfl, rfl, rfl⟩, ?_⟩)); exact trivial, by rfl, by exact pin_0⟩ ?_
  rintro ⟨⟨m, nd, fl⟩, ⟨b2, bf⟩⟩ ⟨hm, hnd, hfl, s0, s1, hg⟩
  dsimp only at hm hnd hfl s0 s1 hg
  rcases hg with ⟨hb0, hg⟩ | ⟨rfl, hgf⟩
  · obtain rfl : fl = false := by rw [hfl]; simpa using hb0
    by_cases c1 : m < list.length + 1
    · have d1 : decide ((m : Int) ≤ (list.length : Int)) = true := by rw [decide_eq_true_eq]; omega
      have hw : IntKind.i64.wrap ((m : Int) + 1) = ((m + 1 : Nat) : Int) := by rw [IntWalk.i64_in _ (by omega)]; omega
      have hX := srun_rc ds ap list frz hP bu hbu list.length (m : Int) (b2, []) (Nat.le_refl _) (by omega) (by omega) hb0 s1 (by rw [Nat.sub_self]; exact Nat.zero_le _) (fun e => by omega) (by simp) 0 2 (by decide)
      have hk := repF_keep (ds := ds) (ap := ap) (list := list) (frz := frz) list.length (m : Int) (b2, []) (Nat.le_refl _) hb0 (by rw [Nat.sub_self]; exact Nat.zero_le _) (fun e => by omega)
      rw [Nat.sub_self] at hX hk
      unfold lfR at hX
      rw [← hnd, ← hfl] at hX
      dsimp only [List.map_nil] at hX
      rw [show list.length + 1 - m = (list.length + 1 - (m + 1)) + 1 by omega, topS] at hg
      generalize repF ds ap list frz list.length (m : Int) (b2, []) = q at *
      obtain ⟨qo, qb, qf⟩ := q
      have kb := hk.bud
      have kl := hk.lo
      have ko := hk.ok
      dsimp only at hX kb kl hg ko
      have hqm : (qf.map inL).length = qf.length := List.length_map _
      cases qo with
      | true =>
        rw [if_pos rfl] at hg hX
        obtain ⟨kn, kz⟩ := ko rfl
        have hCh := specChanges_ro qf list kn (by omega)
        rw [kn] at hCh
        have hdt : ((qf.map inL).drop 0).take list.length = qf.map inL := by rw [List.drop_zero, List.take_of_length_le (by omega)]
        ((repeat' (first
    | (show SQ _ _ _ _ _ _ _ _; first | apply sq_nil | (apply q_move; exact rfl; exact rfl) | (apply q_pick_t; exact rfl; exact rfl; exact rfl; exact (by first | assumption | exact rfl)) | (apply q_fieldAddr; exact rfl; exact rfl; exact (ty rfl); exact rfl; exact rfl; exact rfl; exact rfl) | (apply q_nilc; exact rfl; exact rfl; exact rfl) | (apply q_not; exact rfl; exact rfl) | (apply q_leq; exact rfl; exact rfl; exact rfl) | (apply q_ld1p; exact rfl; exact rfl; exact (ty rfl); exact rfl; exact rfl; exact (by first | rfl | assumption | ((try simp only [Nat.zero_add]); refine List.getElem?_set_self ?_; (try simp only [List.length_set]); assumption)); exact rfl) | (apply q_g; exact rfl; exact rfl; exact rfl; exact (by assumption)))
    | (show SQ _ _ _ _ _ _ _ _; (first | (apply q_store; exact rfl; exact rfl; exact (ty rfl); exact rfl; exact (by first | rfl | assumption | ((try simp only [Nat.zero_add]); refine List.getElem?_set_self ?_; (try simp only [List.length_set]); assumption)); exact rfl; exact rfl; exact rfl) | (apply q_build0; exact rfl; exact (ty rfl); exact rfl) | (apply q_callC; exact rfl; exact rfl; exact rfl; exact hX _; (focus ((repeat (first | exact trivial | refine ⟨by first | exact rfl | assumption, ?_⟩)); done)); skip)); (try simp only [put, rowsOf, plR, List.all_cons, selE, ovr, setH, del, cellsA, splice, isV, List.nil_append, List.cons_append, List.map_cons, List.map_nil, List.length_cons, List.length_nil, List.set_cons_zero, List.set_cons_succ, List.take_succ_cons, List.take_zero, List.take_nil, List.drop_succ_cons, List.drop_zero, List.drop_nil, List.append_nil, List.all_cons, List.all_nil, Bool.and_true, Bool.true_and, Bool.and_false, Bool.false_and, Nat.reduceAdd, Nat.zero_add, Nat.add_zero, Nat.reduceEqDiff, if_true, if_false, reduceIte]))
    | (show DE _ _ _ _ _ _ _ _ _ _ _ _; first | (apply e_move; exact rfl; exact rfl; exact rfl) | (apply e_assign; exact rfl; exact rfl; exact rfl) | (apply e_fieldAddr; exact rfl; exact rfl; exact (ty rfl); exact rfl; exact rfl; exact rfl; exact rfl; exact rfl) | (apply e_nilc; exact rfl; exact rfl; exact rfl; exact rfl) | (apply e_ld1p; exact rfl; exact rfl; exact (ty rfl); exact rfl; exact rfl; exact (by first | rfl | assumption | ((try simp only [Nat.zero_add]); refine List.getElem?_set_self ?_; (try simp only [List.length_set]); assumption)); exact rfl; exact rfl))
    | (show DE _ _ _ _ _ _ _ _ _ _ _ _; (first | (apply dr_nil; exact trivial) | (apply e_callU; exact rfl; exact rfl; exact rfl; rotate_left; exact hCh _; exact rfl; rotate_right; focus ((repeat' (first | exact FzL.nil | exact (by assumption : FzC _) _ | refine FzL.cons ?_ ?_ | exact Fz.of rfl | exact Fz.nil | exact Fz.emp | (apply Fz.fnC; assumption) | (apply Fz.sl2; exact rfl; exact (by first | omega | (simp; done) | (simp; omega)); first | exact rfl | exact dt_full (by first | omega | (simp; done) | (simp; omega)) | assumption) | apply Fz.agg | (apply Fz.ptrL; exact rfl; first | exact rfl | assumption) | apply Fz.fnL)); done))); (try simp only [put, rowsOf, plR, List.all_cons, selE, ovr, setH, del, cellsA, splice, isV, List.nil_append, List.cons_append, List.map_cons, List.map_nil, List.length_cons, List.length_nil, List.set_cons_zero, List.set_cons_succ, List.take_succ_cons, List.take_zero, List.take_nil, List.drop_succ_cons, List.drop_zero, List.drop_nil, List.append_nil, List.all_cons, List.all_nil, Bool.and_true, Bool.true_and, Bool.and_false, Bool.false_and, Nat.reduceAdd, Nat.zero_add, Nat.add_zero, Nat.reduceEqDiff, if_true, if_false, reduceIte]))
    | (show AW _ _ _ _ _ _ _ _; first | refine aw_region ?_ | (refine aw_seqk ?_; intro K hK) | refine aw_block ?_ | (apply aw_cond_t; exact rfl; exact rfl) | refine aw_ret ?_ | refine aw_skip ?_ | refine aw_drawE (id := 14) [0, 1, 3, 7, 0, 16, 48, 112, 0, 496, 1023, 2047, 4095] [0, 0, 0, 1, 0, 0, 0, 1, 0, 1, 0, 0, 0] mixed (by kernel_rfl) ?_)
    | refine thn_n ?_
    | (refine hK _ _ _ ?_; clear hK K)
    | refine thn_r ?_
    | refine inb_r ?_)); all_goals (repeat (clear hK K)))
        all_goals exact absurd (hg ▸ hv.1) (by simp)
      | false =>
        rw [if_neg (by simp)] at hg hX
        ((repeat' (first
    | (show SQ _ _ _ _ _ _ _ _; first | apply sq_nil | (apply q_move; exact rfl; exact rfl) | (apply q_assign; exact rfl; exact rfl) | (apply q_pick_t; exact rfl; exact rfl; exact rfl; exact (by first | assumption | exact rfl)) | (apply q_fieldAddr; exact rfl; exact rfl; exact (ty rfl); exact rfl; exact rfl; exact rfl; exact rfl) | (apply q_nilc; exact rfl; exact rfl; exact rfl) | (apply q_not; exact rfl; exact rfl) | (apply q_add; exact rfl; exact rfl; exact rfl) | (apply q_leq; exact rfl; exact rfl; exact rfl) | (apply q_ld1p; exact rfl; exact rfl; exact (ty rfl); exact rfl; exact rfl; exact (by first | rfl | assumption | ((try simp only [Nat.zero_add]); refine List.getElem?_set_self ?_; (try simp only [List.length_set]); assumption)); exact rfl) | (apply q_g; exact rfl; exact rfl; exact rfl; exact (by assumption)))
    | (show SQ _ _ _ _ _ _ _ _; (first | (apply q_store; exact rfl; exact rfl; exact (ty rfl); exact rfl; exact (by first | rfl | assumption | ((try simp only [Nat.zero_add]); refine List.getElem?_set_self ?_; (try simp only [List.length_set]); assumption)); exact rfl; exact rfl; exact rfl) | (apply q_build0; exact rfl; exact (ty rfl); exact rfl) | (apply q_callC; exact rfl; exact rfl; exact rfl; exact hX _; (focus ((repeat (first | exact trivial | refine ⟨by first | exact rfl | assumption, ?_⟩)); done)); skip)); (try simp only [put, rowsOf, plR, List.all_cons, selE, ovr, setH, del, cellsA, splice, isV, List.nil_append, List.cons_append, List.map_cons, List.map_nil, List.length_cons, List.length_nil, List.set_cons_zero, List.set_cons_succ, List.take_succ_cons, List.take_zero, List.take_nil, List.drop_succ_cons, List.drop_zero, List.drop_nil, List.append_nil, List.all_cons, List.all_nil, Bool.and_true, Bool.true_and, Bool.and_false, Bool.false_and, Nat.reduceAdd, Nat.zero_add, Nat.add_zero, Nat.reduceEqDiff, if_true, if_false, reduceIte]))
    | (show AW _ _ _ _ _ _ _ _; first | refine aw_region ?_ | (refine aw_seqk ?_; intro K hK) | refine aw_block ?_ | (apply aw_cond_t; exact rfl; exact rfl) | (apply aw_cond_f; exact rfl; exact rfl) | refine aw_skip ?_)
    | refine thn_n ?_
    | (refine hK _ _ _ ?_; clear hK K)
    | refine inb_n ?_)); all_goals (repeat (clear hK K)))
        all_goals (refine ⟨((m + 1, bu - max qb 0, decide (qb < 0)), (qb, qf)), mv 1 3, ⟨c1, rfl, rfl, kl, by dsimp only; omega, ?_⟩, by dsimp only; omega, ?_⟩)
        · by_cases c4 : qb < 0
          · rw [if_pos c4] at hg
            subst hg
            exact .inr ⟨by dsimp only; omega, rfl, by dsimp only; omega⟩
          · rw [if_neg c4] at hg
            exact .inl ⟨by dsimp only; omega, hg⟩
        · (try dsimp only); rw [← hw]; exact ⟨by (repeat (refine ⟨by first | exact lk_i rfl rfl | exact lk_d rfl rfl | exact lk_r rfl rfl rfl, ?_⟩)); exact trivial, by (repeat (refine ⟨by first | exact ⟨rfl, rfl, rfl⟩, ?_⟩)); exact trivial, by rfl, by exact pin_0⟩
    · have d1 : decide ((m : Int) ≤ (list.length : Int)) = false := by rw [decide_eq_false_iff_not]; omega
      rw [show list.length + 1 - m = 0 by omega, topS] at hg
      ((repeat' (first
    | (show SQ _ _ _ _ _ _ _ _; first | apply sq_nil | (apply q_move; exact rfl; exact rfl) | (apply q_assign; exact rfl; exact rfl) | (apply q_pick_f; exact rfl; exact rfl; exact rfl; exact (by first | assumption | exact rfl)) | (apply q_fieldAddr; exact rfl; exact rfl; exact (ty rfl); exact rfl; exact rfl; exact rfl; exact rfl) | (apply q_nilc; exact rfl; exact rfl; exact rfl) | (apply q_leq; exact rfl; exact rfl; exact rfl) | (apply q_ld1p; exact rfl; exact rfl; exact (ty rfl); exact rfl; exact rfl; exact (by first | rfl | assumption | ((try simp only [Nat.zero_add]); refine List.getElem?_set_self ?_; (try simp only [List.length_set]); assumption)); exact rfl) | (apply q_s; exact rfl; exact rfl; exact rfl; exact (by assumption); exact rfl))
    | (show AW _ _ _ _ _ _ _ _; first | refine aw_region ?_ | (refine aw_seqk ?_; intro K hK) | (apply aw_cond_f; exact rfl; exact rfl) | refine aw_ret ?_ | refine aw_exit ?_ | refine aw_skip ?_)
    | refine thn_n ?_
    | (refine hK _ _ _ ?_; clear hK K)
    | refine thn_e ?_
    | refine inb_same ?_
    | (clear hK K; refine hK _ _ _ ?_; clear hK K))); all_goals (repeat (clear hK K)))
      all_goals (refine fin_r (fin_p (.r3 _ _ _ _ _ _ (.tmp _ _ rfl) (.tmp _ _ rfl) (.tmp _ _ rfl)) ?_ rfl rfl rfl); rfl)
  · obtain rfl : fl = true := by rw [hfl]; rfl
    by_cases c5 : (m : Int) ≤ (list.length : Int)
    · have d1 : decide ((m : Int) ≤ (list.length : Int)) = true := by simpa using c5
      ((repeat' (first
    | (show SQ _ _ _ _ _ _ _ _; first | apply sq_nil | (apply q_move; exact rfl; exact rfl) | (apply q_assign; exact rfl; exact rfl) | (apply q_pick_t; exact rfl; exact rfl; exact rfl; exact (by first | assumption | exact rfl)) | (apply q_fieldAddr; exact rfl; exact rfl; exact (ty rfl); exact rfl; exact rfl; exact rfl; exact rfl) | (apply q_nilc; exact rfl; exact rfl; exact rfl) | (apply q_not; exact rfl; exact rfl) | (apply q_leq; exact rfl; exact rfl; exact rfl) | (apply q_ld1p; exact rfl; exact rfl; exact (ty rfl); exact rfl; exact rfl; exact (by first | rfl | assumption | ((try simp only [Nat.zero_add]); refine List.getElem?_set_self ?_; (try simp only [List.length_set]); assumption)); exact rfl) | (apply q_g; exact rfl; exact rfl; exact rfl; exact (by assumption)))
    | (show AW _ _ _ _ _ _ _ _; first | refine aw_region ?_ | (refine aw_seqk ?_; intro K hK) | (apply aw_cond_t; exact rfl; exact rfl) | (apply aw_cond_f; exact rfl; exact rfl) | refine aw_ret ?_ | refine aw_exit ?_)
    | refine thn_n ?_
    | (refine hK _ _ _ ?_; clear hK K)
    | refine thn_e ?_
    | refine thn_r ?_
    | refine inb_same ?_
    | (clear hK K; refine hK _ _ _ ?_; clear hK K))); all_goals (repeat (clear hK K)))
      all_goals exact absurd hgf.2 (by omega)
    · have d1 : decide ((m : Int) ≤ (list.length : Int)) = false := by simpa using c5
      ((repeat' (first
    | (show SQ _ _ _ _ _ _ _ _; first | apply sq_nil | (apply q_move; exact rfl; exact rfl) | (apply q_assign; exact rfl; exact rfl) | (apply q_pick_f; exact rfl; exact rfl; exact rfl; exact (by first | assumption | exact rfl)) | (apply q_fieldAddr; exact rfl; exact rfl; exact (ty rfl); exact rfl; exact rfl; exact rfl; exact rfl) | (apply q_nilc; exact rfl; exact rfl; exact rfl) | (apply q_leq; exact rfl; exact rfl; exact rfl) | (apply q_ld1p; exact rfl; exact rfl; exact (ty rfl); exact rfl; exact rfl; exact (by first | rfl | assumption | ((try simp only [Nat.zero_add]); refine List.getElem?_set_self ?_; (try simp only [List.length_set]); assumption)); exact rfl) | (apply q_s; exact rfl; exact rfl; exact rfl; exact (by assumption); exact rfl))
    | (show AW _ _ _ _ _ _ _ _; first | refine aw_region ?_ | (refine aw_seqk ?_; intro K hK) | (apply aw_cond_t; exact rfl; exact rfl) | (apply aw_cond_f; exact rfl; exact rfl) | refine aw_ret ?_ | refine aw_exit ?_)
    | refine thn_n ?_
    | (refine hK _ _ _ ?_; clear hK K)
    | refine thn_e ?_
    | refine thn_r ?_
    | refine inb_same ?_
    | (clear hK K; refine hK _ _ _ ?_; clear hK K))); all_goals (repeat (clear hK K)))
      all_goals exact absurd hgf.2 (by omega)
end
end Go.Proofs.Yteknfaldpajlpaa.Nb

namespace Go.Proofs.Yteknfaldpajlpaa.Nb
open Go Go.RowKit Go.Proofs.Yteknfaldpajlpaa.Aw Go.Proofs.Yteknfaldpajlpaa.In Go.Proofs.Yteknfaldpajlpaa.Il
set_option linter.unusedSimpArgs false
set_option linter.unusedVariables false
set_option linter.unusedSectionVars false
attribute [local irreducible] AW SQ Step RO RC DE Thn InB
theorem canon0 {H O : Hp} (ho : subE H O) : ∀ i c, Aw.look O i = some c → Aw.look H i = some c := by
  have := canon1 (b1 := 0) (L1 := []) ho (fun j b h => by simp at h)
  rwa [nst, List.append_nil] at this
end Go.Proofs.Yteknfaldpajlpaa.Nb

namespace Go.Proofs.Yteknfaldpajlpaa.Nb
open Go Go.RowKit Go.Proofs.Yteknfaldpajlpaa.Aw Go.Proofs.Yteknfaldpajlpaa.In Go.Proofs.Yteknfaldpajlpaa.Il
set_option linter.unusedSimpArgs false
set_option linter.unusedVariables false
set_option linter.unusedSectionVars false
theorem RO.ren0 {P : Program} {f : FuncId} {args : List AV} {k n n' : Nat} {v : AV} {U : Hp} (h : RO P f args 0 v U k) (σ : Nat → Nat) (hσ : ∀ i, i < k → n ≤ σ i ∧ σ i < n') (hj : ∀ i j, i < k → j < k → σ i = σ j → i = j) (hn : n ≤ n') (hv : idsOk k v = true) (hU : ∀ i b, Aw.look U i = some b → idsOkB k b = true) {v' : AV} {U' : Hp} (ev : renA σ v = v') (eU : renH σ U = U') : RO P f args n v' U' n' := by
  subst ev eU
  obtain ⟨h1, h2, h3, h4⟩ := h
  let τ : Nat → Option Nat := fun i => (List.range k).find? fun j => σ j == i
  have hτ : ∀ j, j < k → τ (σ j) = some j := fun j hjk => by
    show (List.range k).find? (fun x => σ x == σ j) = some j
    cases hf : (List.range k).find? (fun x => σ x == σ j) with
    | none =>
      have := List.find?_eq_none.1 hf j (List.mem_range.2 hjk)
      simp at this
    | some x =>
      have g1 := List.find?_some hf
      have g2 := List.mem_range.1 (List.mem_of_find?_eq_some hf)
      rw [hj x j g2 hjk (by simpa using g1)]
  refine ⟨h1, hn, fun i b hb => ?_, fun K w xs hk hvs => (h4 K w xs hk hvs).mono ?_⟩
  · obtain ⟨j, b0, rfl, hl, _⟩ := look_renH hb
    exact hσ j (h3 j b0 hl).2
  rintro e w' ⟨r, m', he, hr⟩
  have hm : ∀ i, i < k → (match τ (σ i) with | some j => m' j | none => (⟨0, 0, 0, true⟩ : Aw.Loc)) = m' i ∧ (n ≤ σ i ∧ σ i < n') := fun i hi => ⟨by rw [hτ i hi], hσ i hi⟩
  refine ⟨r, fun i => match τ i with | some j => m' j | none => (⟨0, 0, 0, true⟩ : Aw.Loc), he, ?_⟩
  refine { below := hr.below, vr := ?_, new := fun i g1 g2 hp => ?_, ids := fun i b hb => ?_, own := fun i b hb => ?_, inj := fun i j bi bj hi hj2 hne => ?_, nm := fun i b hb => ?_ }
  · exact VR.ren3 hr.vr (fun i => i) σ k (S2 := fun i => n ≤ i ∧ i < n') hm v (renA_id v) hv
  · cases ht : τ i with
    | none => rw [ht] at hp; cases hp
    | some j =>
      rw [ht] at hp
      exact hr.new j (Nat.zero_le _) (List.mem_range.1 (List.mem_of_find?_eq_some ht)) hp
  · obtain ⟨j, b0, rfl, hl, _⟩ := look_renH hb
    exact hσ j (h3 j b0 hl).2
  · obtain ⟨j, b0, rfl, hl, rfl⟩ := look_renH hb
    have ho := hr.own j b0 hl
    rw [← renB_id b0] at ho
    exact OB.ren3 (fun i => i) σ k ho (h3 j b0 hl).2 (hU j b0 hl) hm
  · obtain ⟨a, b0, rfl, hl, rfl⟩ := look_renH hi
    obtain ⟨c, b1, rfl, hl1, rfl⟩ := look_renH hj2
    have ha := (h3 a b0 hl).2
    have hc := (h3 c b1 hl1).2
    rw [hτ a ha, hτ c hc]
    exact hr.inj a c b0 b1 hl hl1 (fun e => hne (by rw [e]))
  · obtain ⟨a, b0, rfl, hl, rfl⟩ := look_renH hb
    have ha := (h3 a b0 hl).2
    rw [hτ a ha]
    exact hr.nm a b0 hl
attribute [local irreducible] AW SQ Step RO RC DE
section
variable (ds ap : List (List Int)) (list frz : List Int) (hS : NbS ds) (hA : NbS ap) (hn : list.length ≤ 1048576) (hf : frz.length ≤ 1048576)
include hS hA hn hf
theorem Rep_both (bu : Int) : ∃ (cs : List Int) (m e : Int), cs.length ≤ 24 ∧
    (∀ k, RO Try.prog 30 [.agg [.dsl 1 (nbL ds), .dsl 1 (nbL ap)], .dsl 1 (list.map inL), .dsl 1 (frz.map inL), .v (.int .i64 bu)] k (.tup [.sl k 0 cs.length, .v (.int .i64 m), .v (.int .i64 e)]) [(k, ⟨2, 1, true, cs.map inL⟩)] (k + 1)) ∧
    ∀ k, RO Try.prog 28 [.agg [.dsl 1 (nbL ds), .dsl 1 (nbL ap)], .dsl 1 (list.map inL), .dsl 1 (frz.map inL), .v (.int .i64 bu)] k (.tup [.sl k 0 cs.length, .v (.int .i64 m), .v (.int .i64 e)]) [(k, ⟨2, 1, true, cs.map inL⟩)] (k + 1) := by
  cases h : prB ds ap with
  | false => exact ⟨[], 0, 1, Nat.zero_le _, fun k => RO.nil3 _ (Rep_bad_ro ds ap list frz hS hA hn hf bu h k), fun k => RO.nil3 _ (SRep_bad_ro ds ap list frz hS hA hn hf bu h k)⟩
  | true =>
    cases h2 : inB bu 1 20000 with
    | false => exact ⟨[], 0, 2, Nat.zero_le _, fun k => RO.nil3 _ (Rep_rng_ro ds ap list frz hS hA hn hf bu h h2 k), fun k => RO.nil3 _ (SRep_rng_ro ds ap list frz hS hA hn hf bu h h2 k)⟩
    | true =>
      cases h3 : stB ds list with
      | false => exact ⟨[], 0, 6, Nat.zero_le _, fun k => RO.nil3 _ (Rep_st_ro ds ap list frz hS hA hn hf bu h h2 h3 k), fun k => RO.nil3 _ (SRep_st_ro ds ap list frz hS hA hn hf bu h h2 h3 k)⟩
      | true =>
        cases h4 : frB list frz with
        | false => exact ⟨[], 0, 6, Nat.zero_le _, fun k => RO.nil3 _ (Rep_frz_ro ds ap list frz hS hA hn hf bu h h2 h3 h4 k), fun k => RO.nil3 _ (SRep_frz_ro ds ap list frz hS hA hn hf bu h h2 h3 h4 k)⟩
        | true =>
          have hP := snd_of hS hA h h3 hf
          have hN := hP.n
          have hL := hP.l
          have hn1 : 1 ≤ list.length := by
            have := h
            simp only [prB, domsB, Bool.and_eq_true, decide_eq_true_eq] at this; omega
          have hbu : 1 ≤ bu ∧ bu ≤ 20000 := by simpa [inB] using h2
          obtain ⟨q1, q2, q3⟩ := top_eq ds ap list frz (by omega) (list.length + 1) 0 bu []
          cases h5 : (topF ds ap list frz (list.length + 1) 0 (bu, [])).1 with
          | true =>
            have hl : ∀ (k m : Nat) (st : Rs), 0 ≤ st.1 → (topF ds ap list frz k m st).1 = true → (topF ds ap list frz k m st).2.2.length = list.length := by
              intro k
              induction k with
              | zero => intro m st _ h; cases h
              | succ k ih =>
                intro m st h0
                have hk := repF_keep (ds := ds) (ap := ap) (list := list) (frz := frz) list.length (m : Int) st (Nat.le_refl _) h0 (by rw [Nat.sub_self]; exact Nat.zero_le _) (fun e => by omega)
                rw [topF]
                split
                · intro _; exact (hk.ok (by assumption)).1
                · split
                  · intro hx; exact (hk.ok hx).1
                  · exact ih _ _ (by omega)
            have hlen := hl (list.length + 1) 0 (bu, []) (by dsimp only; omega) h5
            refine ⟨(topF ds ap list frz (list.length + 1) 0 (bu, [])).2.2, (chgN (topF ds ap list frz (list.length + 1) 0 (bu, [])).2.2 list list.length), 0, by omega, fun k => ?_, fun k => ?_⟩
            · rw [hlen]; exact Rep_okR ds ap list frz hS hA hn hf bu h h2 h3 h4 h5 k
            · have := SRep_okR ds ap list frz hS hA hn hf bu h h2 h3 h4 (q1 ▸ h5) k
              rw [← q3 h5] at this
              rw [hlen]; exact this
          | false =>
            by_cases h6 : (topF ds ap list frz (list.length + 1) 0 (bu, [])).2.1 < 0
            · exact ⟨[], 0, 5, Nat.zero_le _, fun k => RO.nil3 _ (Rep_full ds ap list frz hS hA hn hf bu h h2 h3 h4 ⟨h5, h6⟩ k), fun k => RO.nil3 _ (SRep_full ds ap list frz hS hA hn hf bu h h2 h3 h4 ⟨q1 ▸ h5, q2 ▸ h6⟩ k)⟩
            · exact ⟨[], 0, 3, Nat.zero_le _, fun k => RO.nil3 _ (Rep_none ds ap list frz hS hA hn hf bu h h2 h3 h4 ⟨h5, h6⟩ k), fun k => RO.nil3 _ (SRep_none ds ap list frz hS hA hn hf bu h h2 h3 h4 ⟨q1 ▸ h5, q2 ▸ h6⟩ k)⟩
end
theorem szSS_lo {ls : List (List Int)} {z : Int} (hz : z ≤ 1048576) (h : ¬ szSS ls z < 0) : NbS ls ∧ (ls.length : Int) + totN ls ≤ z ∧ szSS ls z ≤ 1048576 ∧ 0 ≤ szSS ls z := by
  have key : ∀ (ls : List (List Int)) (z : Int), z ≤ 1048576 → szL ls z ≤ 1048576 := by
    intro ls
    induction ls with
    | nil => intro z h; exact h
    | cons l ls ih =>
      intro z h
      rw [szL]
      split
      · omega
      · refine ih _ ?_
        unfold szB; split <;> omega
  have h2 : szSS ls z ≤ 1048576 := by
    unfold szSS; split
    · omega
    · exact key _ _ (by omega)
  have h' := h
  unfold szSS at h
  split at h
  · exact absurd h (by decide)
  · rename_i hc
    obtain ⟨g1, g2⟩ := szL_in (by omega) (by omega) h
    exact ⟨⟨by omega, g2⟩, by omega, h2, by omega⟩
set_option maxHeartbeats 4000000 in
theorem szInt64SSz_ro (ls : List (List Int)) (z0 : Int) (hz0 : 0 ≤ z0) (hz1 : z0 ≤ 1048576) (hn : ls.length ≤ 9223372036854775807) (hl : ∀ l ∈ ls, l.length ≤ 9223372036854775807) (k : Nat) : RO Try.prog 8 [.dsl 1 (nbL ls), .v (.int .i64 z0)] k (.v (.int .i64 (szSS ls z0))) [] k := by
  have hnl := nbL_len ls
  have e1 : IntKind.i64.wrap (z0 - ((nbL ls).length : Int)) = z0 - (ls.length : Int) := by rw [hnl]; exact IntWalk.i64_in _ (by omega)
  by_cases c0 : z0 - (ls.length : Int) < 0
  · have b0 : decide (IntKind.i64.wrap (z0 - ((nbL ls).length : Int)) < 0) = true := by rw [e1]; simpa using c0
    have e : szSS ls z0 = -1 := by unfold szSS; rw [if_pos c0]
    rw [e]
    refine RO.ofv' Try.func8 Try.ntmps8 rfl (goFn_of Try.func8 rfl (by kernel_rfl)) rfl rfl ?_
    ((repeat' (first
    | (show SQ _ _ _ _ _ _ _ _; first | apply sq_nil | (apply q_move; exact rfl; exact rfl) | (apply q_assign; exact rfl; exact rfl) | (apply q_lend; exact rfl; exact rfl; exact (ty rfl); exact rfl) | (apply q_sub; exact rfl; exact rfl; exact rfl) | (apply q_lss; exact rfl; exact rfl; exact rfl))
    | (show AW _ _ _ _ _ _ _ _; first | refine aw_region ?_ | (refine aw_seqk ?_; intro K hK) | (apply aw_cond_t; exact rfl; exact (by assumption)) | refine aw_ret ?_)
    | refine thn_n ?_
    | (refine hK _ _ _ ?_; clear hK K)
    | refine thn_r ?_)); all_goals (repeat (clear hK K)))
    all_goals exact fin_r (fin_i rfl rfl)
  · have b0 : decide (IntKind.i64.wrap (z0 - ((nbL ls).length : Int)) < 0) = false := by rw [e1]; simpa using c0
    have e : szSS ls z0 = szL ls (z0 - ls.length) := by unfold szSS; rw [if_neg c0]
    rw [e]
    refine RO.ofv' Try.func8 Try.ntmps8 rfl (goFn_of Try.func8 rfl (by kernel_rfl)) rfl rfl ?_
    ((repeat' (first
    | (show SQ _ _ _ _ _ _ _ _; first | apply sq_nil | (apply q_move; exact rfl; exact rfl) | (apply q_assign; exact rfl; exact rfl) | (apply q_lend; exact rfl; exact rfl; exact (ty rfl); exact rfl) | (apply q_sub; exact rfl; exact rfl; exact rfl) | (apply q_lss; exact rfl; exact rfl; exact rfl))
    | (show AW _ _ _ _ _ _ _ _; first | refine aw_region ?_ | (refine aw_seqk ?_; intro K hK) | refine aw_block ?_ | (apply aw_cond_f; exact rfl; exact (by assumption)) | refine aw_skip ?_)
    | refine thn_n ?_
    | (refine hK _ _ _ ?_; clear hK K))); all_goals (repeat (clear hK K)))
    rw [e1]
    refine aw_loop (ρ := id) (ι := Nat × Int) (fun s => ([(5, .v (.int .i64 (s.1 : Int))), (1, .v (.int .i64 s.2)), (0, .dsl 1 (nbL ls))], [], 0))
      (fun s => s.1 ≤ ls.length ∧ 0 ≤ s.2 ∧ s.2 ≤ 1048576 ∧ szL (ls.drop s.1) s.2 = szL ls (z0 - ls.length)) (fun s => ls.length - s.1) (0, z0 - (ls.length : Int)) ⟨Nat.zero_le _, by dsimp only; omega, by dsimp only; omega, rfl⟩ ⟨by (repeat (refine ⟨by first | exact lk_i rfl rfl | exact lk_d rfl rfl, ?_⟩)); exact trivial, by exact trivial, by rfl, by exact pin_0⟩ ?_
    rintro ⟨i, z⟩ ⟨hi, z0, z1, hg⟩
    dsimp only at hi z0 z1 hg
    by_cases c1 : i < ls.length
    · have b1 : decide ((i : Int) < ((nbL ls).length : Int)) = true := by rw [hnl]; simpa using c1
      have hrow := nbL_get c1
      have hS := szInt64S_ro ls[i] z (hl _ (List.getElem_mem c1)) z0 z1
      have hw : IntKind.i64.wrap ((i : Int) + 1) = ((i + 1 : Nat) : Int) := by rw [IntWalk.i64_in _ (by omega)]; omega
      rw [List.drop_eq_getElem_cons c1, szL] at hg
      by_cases c2 : szB ls[i].length z < 0
      · have b2 : decide (szB ls[i].length z < 0) = true := by simpa using c2
        rw [if_pos c2] at hg
        ((repeat' (first
    | (show SQ _ _ _ _ _ _ _ _; first | apply sq_nil | (apply q_move; exact rfl; exact rfl) | (apply q_assign; exact rfl; exact rfl) | (apply q_lend; exact rfl; exact rfl; exact (ty rfl); exact rfl) | (apply q_lss; exact rfl; exact rfl; exact rfl) | (apply q_ixd; exact rfl; exact rfl; exact rfl; exact (ty rfl); exact rfl; exact (by first | omega | (simp; done) | (simp; omega)); exact (by first | omega | (simp; done) | (simp; omega)); exact (by first | rfl | assumption)) | (apply q_ld1d; exact rfl; exact rfl; exact (ty rfl); exact rfl; exact rfl))
    | (show SQ _ _ _ _ _ _ _ _; (first | (apply q_callU; exact rfl; exact rfl; exact rfl; exact FzL.of rfl; exact hS _)); (try simp only [put, rowsOf, plR, List.all_cons, selE, ovr, setH, del, cellsA, splice, isV, List.nil_append, List.cons_append, List.map_cons, List.map_nil, List.length_cons, List.length_nil, List.set_cons_zero, List.set_cons_succ, List.take_succ_cons, List.take_zero, List.take_nil, List.drop_succ_cons, List.drop_zero, List.drop_nil, List.append_nil, List.all_cons, List.all_nil, Bool.and_true, Bool.true_and, Bool.and_false, Bool.false_and, Nat.reduceAdd, Nat.zero_add, Nat.add_zero, Nat.reduceEqDiff, if_true, if_false, reduceIte]))
    | (show AW _ _ _ _ _ _ _ _; first | refine aw_region ?_ | (refine aw_seqk ?_; intro K hK) | refine aw_block ?_ | (apply aw_cond_t; exact rfl; exact (by assumption)) | refine aw_ret ?_ | refine aw_skip ?_)
    | refine thn_n ?_
    | (refine hK _ _ _ ?_; clear hK K)
    | refine thn_r ?_
    | refine inb_r ?_)); all_goals (repeat (clear hK K)))
        all_goals exact fin_r (fin_i rfl hg)
      · have b2 : decide (szB ls[i].length z < 0) = false := by simpa using c2
        rw [if_neg c2] at hg
        have := szB_in z1 z0 c2
        ((repeat' (first
    | (show SQ _ _ _ _ _ _ _ _; first | apply sq_nil | (apply q_move; exact rfl; exact rfl) | (apply q_assign; exact rfl; exact rfl) | (apply q_lend; exact rfl; exact rfl; exact (ty rfl); exact rfl) | (apply q_add; exact rfl; exact rfl; exact rfl) | (apply q_lss; exact rfl; exact rfl; exact rfl) | (apply q_ixd; exact rfl; exact rfl; exact rfl; exact (ty rfl); exact rfl; exact (by first | omega | (simp; done) | (simp; omega)); exact (by first | omega | (simp; done) | (simp; omega)); exact (by first | rfl | assumption)) | (apply q_ld1d; exact rfl; exact rfl; exact (ty rfl); exact rfl; exact rfl))
    | (show SQ _ _ _ _ _ _ _ _; (first | (apply q_callU; exact rfl; exact rfl; exact rfl; exact FzL.of rfl; exact hS _)); (try simp only [put, rowsOf, plR, List.all_cons, selE, ovr, setH, del, cellsA, splice, isV, List.nil_append, List.cons_append, List.map_cons, List.map_nil, List.length_cons, List.length_nil, List.set_cons_zero, List.set_cons_succ, List.take_succ_cons, List.take_zero, List.take_nil, List.drop_succ_cons, List.drop_zero, List.drop_nil, List.append_nil, List.all_cons, List.all_nil, Bool.and_true, Bool.true_and, Bool.and_false, Bool.false_and, Nat.reduceAdd, Nat.zero_add, Nat.add_zero, Nat.reduceEqDiff, if_true, if_false, reduceIte]))
    | (show AW _ _ _ _ _ _ _ _; first | refine aw_region ?_ | (refine aw_seqk ?_; intro K hK) | refine aw_block ?_ | (apply aw_cond_t; exact rfl; exact (by assumption)) | (apply aw_cond_f; exact rfl; exact (by assumption)) | refine aw_skip ?_)
    | refine thn_n ?_
    | (refine hK _ _ _ ?_; clear hK K))); all_goals (repeat (clear hK K)))
        all_goals (refine ⟨(i + 1, szB ls[i].length z), id, ⟨c1, by dsimp only; omega, by dsimp only; omega, hg⟩, by dsimp only; omega, ?_⟩; (try dsimp only); rw [← hw]; exact ⟨by (repeat (refine ⟨by first | exact lk_i rfl rfl | exact lk_d rfl rfl, ?_⟩)); exact trivial, by exact trivial, by rfl, by exact pin_0⟩)
    · have b1 : decide ((i : Int) < ((nbL ls).length : Int)) = false := by rw [hnl]; simpa using c1
      rw [List.drop_eq_nil_of_le (by omega), szL] at hg
      ((repeat' (first
    | (show SQ _ _ _ _ _ _ _ _; first | apply sq_nil | (apply q_move; exact rfl; exact rfl) | (apply q_assign; exact rfl; exact rfl) | (apply q_lend; exact rfl; exact rfl; exact (ty rfl); exact rfl) | (apply q_lss; exact rfl; exact rfl; exact rfl))
    | (show AW _ _ _ _ _ _ _ _; first | refine aw_region ?_ | (refine aw_seqk ?_; intro K hK) | (apply aw_cond_f; exact rfl; exact (by assumption)) | refine aw_ret ?_ | refine aw_exit ?_)
    | refine thn_n ?_
    | (refine hK _ _ _ ?_; clear hK K)
    | refine thn_e ?_
    | refine inb_same ?_
    | (clear hK K; refine hK _ _ _ ?_; clear hK K))); all_goals (repeat (clear hK K)))
      all_goals exact fin_r (fin_i rfl hg)
def szP (ds ap : List (List Int)) : Int := if szSS ds 1048576 < 0 then -1 else if szSS ap (szSS ds 1048576) < 0 then -1 else szSS ap (szSS ds 1048576)
set_option maxHeartbeats 4000000 in
theorem szProblem_ro (ds ap : List (List Int)) (hn : ds.length ≤ 9223372036854775807) (hl : ∀ l ∈ ds, l.length ≤ 9223372036854775807) (hn2 : ap.length ≤ 9223372036854775807) (hl2 : ∀ l ∈ ap, l.length ≤ 9223372036854775807) (k : Nat) :
    RO Try.prog 27 [.agg [.dsl 1 (nbL ds), .dsl 1 (nbL ap)], .v (.int .i64 1048576)] k (.v (.int .i64 (szP ds ap))) [] k := by
  have h1 := szInt64SSz_ro ds 1048576 (by omega) (by omega) hn hl
  unfold szP
  refine RO.ofv' Try.func27 Try.ntmps27 rfl (goFn_of Try.func27 rfl (by kernel_rfl)) rfl rfl ?_
  by_cases c1 : szSS ds 1048576 < 0
  · have b1 : decide (szSS ds 1048576 < 0) = true := by simpa using c1
    rw [if_pos c1]
    ((repeat' (first
    | (show SQ _ _ _ _ _ _ _ _; first | apply sq_nil | (apply q_move; exact rfl; exact rfl) | (apply q_assign; exact rfl; exact rfl) | (apply q_fieldAddr; exact rfl; exact rfl; exact (ty rfl); exact rfl; exact rfl; exact rfl; exact rfl) | (apply q_lss; exact rfl; exact rfl; exact rfl) | (apply q_ld1p; exact rfl; exact rfl; exact (ty rfl); exact rfl; exact rfl; exact (by first | rfl | assumption | ((try simp only [Nat.zero_add]); refine List.getElem?_set_self ?_; (try simp only [List.length_set]); assumption)); exact rfl))
    | (show SQ _ _ _ _ _ _ _ _; (first | (apply q_box; exact rfl; exact rfl; exact rfl) | (apply q_callU; exact rfl; exact rfl; exact rfl; exact FzL.of rfl; exact h1 _)); (try simp only [put, rowsOf, plR, List.all_cons, selE, ovr, setH, del, cellsA, splice, isV, List.nil_append, List.cons_append, List.map_cons, List.map_nil, List.length_cons, List.length_nil, List.set_cons_zero, List.set_cons_succ, List.take_succ_cons, List.take_zero, List.take_nil, List.drop_succ_cons, List.drop_zero, List.drop_nil, List.append_nil, List.all_cons, List.all_nil, Bool.and_true, Bool.true_and, Bool.and_false, Bool.false_and, Nat.reduceAdd, Nat.zero_add, Nat.add_zero, Nat.reduceEqDiff, if_true, if_false, reduceIte]))
    | (show AW _ _ _ _ _ _ _ _; first | refine aw_region ?_ | (refine aw_seqk ?_; intro K hK) | (apply aw_cond_t; exact rfl; exact (by assumption)) | refine aw_ret ?_)
    | refine thn_n ?_
    | (refine hK _ _ _ ?_; clear hK K)
    | refine thn_r ?_)); all_goals (repeat (clear hK K)))
    all_goals exact fin_r (fin_i rfl rfl)
  have b1 : decide (szSS ds 1048576 < 0) = false := by simpa using c1
  rw [if_neg c1]
  obtain ⟨_, _, z1, z0⟩ := szSS_lo (by omega) c1
  have h2 := szInt64SSz_ro ap _ z0 z1 hn2 hl2
  by_cases c2 : szSS ap (szSS ds 1048576) < 0
  · have b2 : decide (szSS ap (szSS ds 1048576) < 0) = true := by simpa using c2
    rw [if_pos c2]
    ((repeat' (first
    | (show SQ _ _ _ _ _ _ _ _; first | apply sq_nil | (apply q_move; exact rfl; exact rfl) | (apply q_assign; exact rfl; exact rfl) | (apply q_fieldAddr; exact rfl; exact rfl; exact (ty rfl); exact rfl; exact rfl; exact rfl; exact rfl) | (apply q_lss; exact rfl; exact rfl; exact rfl) | (apply q_ld1p; exact rfl; exact rfl; exact (ty rfl); exact rfl; exact rfl; exact (by first | rfl | assumption | ((try simp only [Nat.zero_add]); refine List.getElem?_set_self ?_; (try simp only [List.length_set]); assumption)); exact rfl))
    | (show SQ _ _ _ _ _ _ _ _; (first | (apply q_box; exact rfl; exact rfl; exact rfl) | (apply q_callU; exact rfl; exact rfl; exact rfl; exact FzL.of rfl; exact h1 _) | (apply q_callU; exact rfl; exact rfl; exact rfl; exact FzL.of rfl; exact h2 _)); (try simp only [put, rowsOf, plR, List.all_cons, selE, ovr, setH, del, cellsA, splice, isV, List.nil_append, List.cons_append, List.map_cons, List.map_nil, List.length_cons, List.length_nil, List.set_cons_zero, List.set_cons_succ, List.take_succ_cons, List.take_zero, List.take_nil, List.drop_succ_cons, List.drop_zero, List.drop_nil, List.append_nil, List.all_cons, List.all_nil, Bool.and_true, Bool.true_and, Bool.and_false, Bool.false_and, Nat.reduceAdd, Nat.zero_add, Nat.add_zero, Nat.reduceEqDiff, if_true, if_false, reduceIte]))
    | (show AW _ _ _ _ _ _ _ _; first | refine aw_region ?_ | (refine aw_seqk ?_; intro K hK) | (apply aw_cond_t; exact rfl; exact (by assumption)) | (apply aw_cond_f; exact rfl; exact (by assumption)) | refine aw_ret ?_ | refine aw_skip ?_)
    | refine thn_n ?_
    | (refine hK _ _ _ ?_; clear hK K)
    | refine thn_r ?_)); all_goals (repeat (clear hK K)))
    all_goals exact fin_r (fin_i rfl rfl)
  have b2 : decide (szSS ap (szSS ds 1048576) < 0) = false := by simpa using c2
  rw [if_neg c2]
  ((repeat' (first
    | (show SQ _ _ _ _ _ _ _ _; first | apply sq_nil | (apply q_move; exact rfl; exact rfl) | (apply q_assign; exact rfl; exact rfl) | (apply q_fieldAddr; exact rfl; exact rfl; exact (ty rfl); exact rfl; exact rfl; exact rfl; exact rfl) | (apply q_lss; exact rfl; exact rfl; exact rfl) | (apply q_ld1p; exact rfl; exact rfl; exact (ty rfl); exact rfl; exact rfl; exact (by first | rfl | assumption | ((try simp only [Nat.zero_add]); refine List.getElem?_set_self ?_; (try simp only [List.length_set]); assumption)); exact rfl))
    | (show SQ _ _ _ _ _ _ _ _; (first | (apply q_box; exact rfl; exact rfl; exact rfl) | (apply q_callU; exact rfl; exact rfl; exact rfl; exact FzL.of rfl; exact h1 _) | (apply q_callU; exact rfl; exact rfl; exact rfl; exact FzL.of rfl; exact h2 _)); (try simp only [put, rowsOf, plR, List.all_cons, selE, ovr, setH, del, cellsA, splice, isV, List.nil_append, List.cons_append, List.map_cons, List.map_nil, List.length_cons, List.length_nil, List.set_cons_zero, List.set_cons_succ, List.take_succ_cons, List.take_zero, List.take_nil, List.drop_succ_cons, List.drop_zero, List.drop_nil, List.append_nil, List.all_cons, List.all_nil, Bool.and_true, Bool.true_and, Bool.and_false, Bool.false_and, Nat.reduceAdd, Nat.zero_add, Nat.add_zero, Nat.reduceEqDiff, if_true, if_false, reduceIte]))
    | (show AW _ _ _ _ _ _ _ _; first | refine aw_region ?_ | (refine aw_seqk ?_; intro K hK) | (apply aw_cond_f; exact rfl; exact (by assumption)) | refine aw_ret ?_ | refine aw_skip ?_)
    | refine thn_n ?_
    | (refine hK _ _ _ ?_; clear hK K))); all_goals (repeat (clear hK K)))
  all_goals exact fin_r (fin_i rfl rfl)
set_option maxHeartbeats 4000000 in
theorem eqProblem_ro (ds ap : List (List Int)) (hS : NbS ds) (hA : NbS ap) (k : Nat) : RO Try.prog 31 [.agg [.dsl 1 (nbL ds), .dsl 1 (nbL ap)], .agg [.dsl 1 (nbL ds), .dsl 1 (nbL ap)]] k (.v (.bool true)) [] k := by
  have h1 := eqInt64SS_ro ds hS
  have h2 := eqInt64SS_ro ap hA
  have b3 : (!true) = false := rfl
  refine RO.ofv' Try.func31 Try.ntmps31 rfl (goFn_of Try.func31 rfl (by kernel_rfl)) rfl rfl ?_
  ((repeat' (first
    | (show SQ _ _ _ _ _ _ _ _; first | apply sq_nil | (apply q_assign; exact rfl; exact rfl) | (apply q_fieldAddr; exact rfl; exact rfl; exact (ty rfl); exact rfl; exact rfl; exact rfl; exact rfl) | (apply q_not; exact rfl; exact rfl) | (apply q_ld1p; exact rfl; exact rfl; exact (ty rfl); exact rfl; exact rfl; exact (by first | rfl | assumption | ((try simp only [Nat.zero_add]); refine List.getElem?_set_self ?_; (try simp only [List.length_set]); assumption)); exact rfl))
    | (show SQ _ _ _ _ _ _ _ _; (first | (apply q_box; exact rfl; exact rfl; exact rfl) | (apply q_callU; exact rfl; exact rfl; exact rfl; exact FzL.of rfl; exact h1 _) | (apply q_callU; exact rfl; exact rfl; exact rfl; exact FzL.of rfl; exact h2 _)); (try simp only [put, rowsOf, plR, List.all_cons, selE, ovr, setH, del, cellsA, splice, isV, List.nil_append, List.cons_append, List.map_cons, List.map_nil, List.length_cons, List.length_nil, List.set_cons_zero, List.set_cons_succ, List.take_succ_cons, List.take_zero, List.take_nil, List.drop_succ_cons, List.drop_zero, List.drop_nil, List.append_nil, List.all_cons, List.all_nil, Bool.and_true, Bool.true_and, Bool.and_false, Bool.false_and, Nat.reduceAdd, Nat.zero_add, Nat.add_zero, Nat.reduceEqDiff, if_true, if_false, reduceIte]))
    | (show AW _ _ _ _ _ _ _ _; first | refine aw_region ?_ | (refine aw_seqk ?_; intro K hK) | (apply aw_cond_f; exact rfl; exact rfl) | refine aw_ret ?_ | refine aw_skip ?_)
    | refine thn_n ?_
    | (refine hK _ _ _ ?_; clear hK K))); all_goals (repeat (clear hK K)))
  all_goals exact fin_r (fin_b rfl rfl)
def ni2 (a : Nat) (ds : List (List Int)) (b : Nat) (ap : List (List Int)) : Hp := (a, niB a ds) :: (b, niB b ap) :: (nst (a + 1) (niT ds) ++ nst (b + 1) (niT ap))
theorem ni2_shape {f : Nat × Blk → Bool} {ds ap : List (List Int)} {a b : Nat} (h1 : f (a, niB a ds) = true) (h2 : f (b, niB b ap) = true) (h3 : ∀ (j : Nat) (c : Blk), (niT ds)[j]? = some c → f (a + 1 + j, c) = true) (h4 : ∀ (j : Nat) (c : Blk), (niT ap)[j]? = some c → f (b + 1 + j, c) = true) : (ni2 a ds b ap).all f = true := by
  rw [ni2, List.all_cons, List.all_cons, List.all_append, allN f (niT ds) _ h3, allN f (niT ap) _ h4, h1, h2]; rfl
theorem ni2_look {ds ap : List (List Int)} {b i : Nat} (hb : b = 1 + ds.length) (hi : i < b + 1 + ap.length) : (Aw.look (ni2 0 ds b ap) i).isSome = true := by
  rw [ni2, look_cons]
  split
  · rfl
  · rw [look_cons]
    split
    · rfl
    · rw [look_append, look_nst]
      by_cases h : i < b
      · rw [if_pos (by omega), List.getElem?_eq_getElem (by rw [niT_len]; omega)]; rfl
      · rw [if_pos (by omega), List.getElem?_eq_none (by rw [niT_len]; omega), Option.none_or, look_nst, if_pos (by omega), List.getElem?_eq_getElem (by rw [niT_len]; omega)]; rfl
theorem niB_ids {k a : Nat} {ls : List (List Int)} (h : a + 1 + ls.length ≤ k) : idsOkB k (niB a ls) = true := outR_ids _ _ (by rw [List.length_map]; omega)
theorem niT_ids {k j : Nat} {ls : List (List Int)} {c : Blk} (h : (niT ls)[j]? = some c) : idsOkB k c = true := by
  obtain ⟨_, rfl⟩ := niT_get h; rfl
theorem ni2_mem {ds ap : List (List Int)} {a b : Nat} {p : Nat × Blk} (h : p ∈ ni2 a ds b ap) : p = (a, niB a ds) ∨ p = (b, niB b ap) ∨ (∃ (j : Nat) (c : Blk), (niT ds)[j]? = some c ∧ p = (a + 1 + j, c)) ∨ ∃ (j : Nat) (c : Blk), (niT ap)[j]? = some c ∧ p = (b + 1 + j, c) := by
  rw [ni2, List.mem_cons, List.mem_cons, List.mem_append] at h
  rcases h with h | h | h | h
  · exact .inl h
  · exact .inr (.inl h)
  · obtain ⟨j, h1, h2⟩ := nst_mem _ _ _ h
    exact .inr (.inr (.inl ⟨j, p.2, h1, by rw [← h2]⟩))
  · obtain ⟨j, h1, h2⟩ := nst_mem _ _ _ h
    exact .inr (.inr (.inr ⟨j, p.2, h1, by rw [← h2]⟩))
theorem ni2_in {H : Hp} {ds ap : List (List Int)} {a b : Nat} (h1 : Aw.look H a = some (niB a ds)) (h2 : NstIn H (a + 1) (niT ds)) (h3 : Aw.look H b = some (niB b ap)) (h4 : NstIn H (b + 1) (niT ap)) : ∀ p ∈ ni2 a ds b ap, Aw.look H p.1 = some p.2 := fun p hp => by
  rcases ni2_mem hp with rfl | rfl | ⟨j, c, hj, rfl⟩ | ⟨j, c, hj, rfl⟩
  · exact h1
  · exact h3
  · exact h2 j c hj
  · exact h4 j c hj
theorem look_some_mem : ∀ {U : Hp} {i : Nat} {b : Blk}, Aw.look U i = some b → (i, b) ∈ U
  | [], i, b, h => by cases h
  | (u, x) :: U, i, b, h => by
    rw [look_cons] at h
    split at h
    · rename_i e; subst e; cases h; exact List.mem_cons_self
    · exact List.mem_cons_of_mem _ (look_some_mem h)
def spr (n m z : Nat) : Nat := if z ≤ m then n + z else n + 1048578 + (z - 1 - m)
theorem renH_app (σ : Nat → Nat) (A B : Hp) : renH σ (A ++ B) = renH σ A ++ renH σ B := List.map_append
theorem renH_ni2 {σ : Nat → Nat} {ds ap : List (List Int)} {a b a' b' : Nat} (h1 : ∀ j, j ≤ ds.length → σ (a + j) = a' + j) (h2 : ∀ j, j ≤ ap.length → σ (b + j) = b' + j) : renH σ (ni2 a ds b ap) = ni2 a' ds b' ap := by
  have one : ∀ (ls : List (List Int)) (a a' : Nat), (∀ j, j ≤ ls.length → σ (a + j) = a' + j) → σ a = a' ∧ renB σ (niB a ls) = niB a' ls ∧ renH σ (nst (a + 1) (niT ls)) = nst (a' + 1) (niT ls) := by
    intro ls a a' h
    have h0 := h 0 (Nat.zero_le _)
    rw [Nat.add_zero, Nat.add_zero] at h0
    exact ⟨h0, renB_ni (b := a') fun j hj => by rw [show a + 1 + j = a + (j + 1) by omega, h _ (by omega)]; omega, renH_nst (niT ls) (a + 1) (a' + 1) (niT_pl ls) fun j hj => by rw [niT_len] at hj; rw [show a + 1 + j = a + (j + 1) by omega, h _ (by omega)]; omega⟩
  obtain ⟨g1, g2, g3⟩ := one ds a a' h1
  obtain ⟨k1, k2, k3⟩ := one ap b b' h2
  show (σ a, renB σ (niB a ds)) :: (σ b, renB σ (niB b ap)) :: renH σ (nst (a + 1) (niT ds) ++ nst (b + 1) (niT ap)) = _
  rw [renH_app, g1, g2, g3, k1, k2, k3]; rfl
theorem subH_of {H : Hp} {ρ : Nat → Nat} {n : Nat} : ∀ (U : Hp), (∀ p ∈ U, Aw.look H (ρ p.1) = some (renB ρ p.2) ∧ idsOkB n p.2 = true ∧ p.1 < n) → subH H ρ n U
  | [], _ => trivial
  | p :: U, h => by
    obtain ⟨h1, h2, h3⟩ := h p List.mem_cons_self
    exact ⟨⟨h1, h2, by rw [Nat.blt_eq]; exact h3⟩, subH_of U fun q hq => h q (List.mem_cons_of_mem _ hq)⟩
theorem NstIn.left {base : Nat} {bs : List Blk} {A B : Hp} (h : NstIn A base bs) : NstIn (A ++ B) base bs := fun j c hc => by rw [look_append, h j c hc]; rfl
theorem NstIn.right {base : Nat} {bs : List Blk} {A B : Hp} (hn : ∀ j, j < bs.length → Aw.look A (base + j) = none) (h : NstIn B base bs) : NstIn (A ++ B) base bs := fun j c hc => by rw [look_append, hn j (nlt hc), Option.none_or]; exact h j c hc
theorem fin_ni2 {P : Program} {rs : List ResultVar} {X Y : Nat} {T : Tp} {H : Hp} {ds ap : List (List Int)} {u v : AV} (ht : ResV P T H rs u) (hu : u = renA (fun z => if z ≤ ds.length then X + z else Y + (z - 1 - ds.length)) v) (hi : idsOk (2 + ds.length + ap.length) v = true) (hd : noDeep v = true)
    (hb : Aw.look H X = some (niB X ds)) (hn : NstIn H (X + 1) (niT ds)) (hb2 : Aw.look H Y = some (niB Y ap)) (hn2 : NstIn H (Y + 1) (niT ap)) (hx : X + ds.length < Y) : FinOk P rs v (ni2 0 ds (1 + ds.length) ap) (2 + ds.length + ap.length) T H := by
  refine ⟨⟨u, _, ht, hu, subH_of _ fun p hp => ?_, injB_of fun i hi j hj he => ?_⟩, hi, hd, List.all_eq_true.2 fun p hp => ?_⟩
  · rcases ni2_mem hp with rfl | rfl | ⟨j, c, hj, rfl⟩ | ⟨j, c, hj, rfl⟩
    · refine ⟨?_, niB_ids (by omega), by dsimp only; omega⟩
      dsimp only
      rw [if_pos (by omega), renB_ni (b := X) fun j hj => by rw [if_pos (by omega)]; omega]; exact hb
    · refine ⟨?_, niB_ids (by omega), by dsimp only; omega⟩
      dsimp only
      rw [if_neg (by omega), renB_ni (b := Y) fun j hj => by rw [if_neg (by omega)]; omega, show Y + (1 + ds.length - 1 - ds.length) = Y by omega]; exact hb2
    · obtain ⟨hl, rfl⟩ := niT_get hj
      refine ⟨?_, rfl, by dsimp only; omega⟩
      dsimp only
      rw [if_pos (by omega), renB_pl _ rfl, show X + (0 + 1 + j) = X + 1 + j by omega]; exact hn j _ hj
    · obtain ⟨hl, rfl⟩ := niT_get hj
      refine ⟨?_, rfl, by dsimp only; omega⟩
      dsimp only
      rw [if_neg (by omega), renB_pl _ rfl, show Y + (1 + ds.length + 1 + j - 1 - ds.length) = Y + 1 + j by omega]; exact hn2 j _ hj
  · obtain ⟨p, hp, rfl⟩ := List.mem_map.1 hi
    obtain ⟨q, hq, rfl⟩ := List.mem_map.1 hj
    have key : ∀ p ∈ ni2 0 ds (1 + ds.length) ap, p.1 < 2 + ds.length + ap.length := fun p hp => by
      rcases ni2_mem hp with rfl | rfl | ⟨j, c, hj, rfl⟩ | ⟨j, c, hj, rfl⟩
      · dsimp only; omega
      · dsimp only; omega
      · have := nlt hj; rw [niT_len] at this; dsimp only; omega
      · have := nlt hj; rw [niT_len] at this; dsimp only; omega
    have := key p hp
    have := key q hq
    split at he <;> split at he <;> omega
  · rcases ni2_mem hp with rfl | rfl | ⟨j, c, hj, rfl⟩ | ⟨j, c, hj, rfl⟩
    · exact outR_nd _ _
    · exact outR_nd _ _
    · obtain ⟨hl, rfl⟩ := niT_get hj; rfl
    · obtain ⟨hl, rfl⟩ := niT_get hj; rfl
set_option maxHeartbeats 4000000 in
theorem toProblem_ro (ds ap : List (List Int)) (hS : NbS ds) (hA : NbS ap) (k : Nat) : RO Try.prog 29 [.agg [.dsl 1 (nbL ds), .dsl 1 (nbL ap)]] k (.agg [.sl k 0 ds.length, .sl (k + 1048578) 0 ap.length]) (ni2 k ds (k + 1048578) ap) (k + 2097156) := by
  have hn := hS.n
  have hn2 := hA.n
  have hnD := niT_len ds
  have hnA := niT_len ap
  have hD := toInt64SS_ro ds hS
  have hAp := toInt64SS_ro ap hA
  have hd : RO Try.prog 29 [.agg [.dsl 1 (nbL ds), .dsl 1 (nbL ap)]] 0 (.agg [.sl 0 0 ds.length, .sl (1 + ds.length) 0 ap.length]) (ni2 0 ds (1 + ds.length) ap) (0 + (2 + ds.length + ap.length)) := by
    refine RO.ofm (.agg [.sl 0 0 ds.length, .sl (1 + ds.length) 0 ap.length]) (ni2 0 ds (1 + ds.length) ap) (2 + ds.length + ap.length) Try.func29 Try.ntmps29 rfl (goFn_of Try.func29 rfl (by kernel_rfl)) rfl rfl (by simp [renA, renL]) ?_ ?_ ?_
    · exact renH_ni2 (σ := fun z => z + 0) (fun j _ => rfl) (fun j _ => rfl)
    · unfold fullB
      rw [Bool.and_eq_true]
      have bl : ∀ {x y : Nat}, x < y → Nat.blt x y = true := fun h => by rw [Nat.blt_eq]; exact h
      refine ⟨ni2_shape ?_ ?_ (fun j c hc => ?_) (fun j c hc => ?_), List.all_eq_true.2 fun i hi => ni2_look rfl (by have := List.mem_range.1 hi; omega)⟩
      · dsimp only; rw [bl (by omega)]; rfl
      · dsimp only; rw [bl (by omega)]; rfl
      · obtain ⟨hj, rfl⟩ := niT_get hc; dsimp only; rw [bl (by omega)]; rfl
      · obtain ⟨hj, rfl⟩ := niT_get hc; dsimp only; rw [bl (by omega)]; rfl
    ((repeat' (first
    | (show SQ _ _ _ _ _ _ _ _; first | apply sq_nil | (apply q_fieldAddr; exact rfl; exact rfl; exact (ty rfl); exact rfl; exact rfl; exact rfl; exact rfl) | (apply q_ld1p; exact rfl; exact rfl; exact (ty rfl); exact rfl; exact rfl; exact (by first | rfl | assumption | ((try simp only [Nat.zero_add]); refine List.getElem?_set_self ?_; (try simp only [List.length_set]); assumption)); exact rfl))
    | (show SQ _ _ _ _ _ _ _ _; (first | (apply q_box; exact rfl; exact rfl; exact rfl) | (apply q_alloc; exact rfl; exact (ty rfl); exact rfl; exact rfl)); (try simp only [put, rowsOf, plR, List.all_cons, selE, ovr, setH, del, cellsA, splice, isV, List.nil_append, List.cons_append, List.map_cons, List.map_nil, List.length_cons, List.length_nil, List.set_cons_zero, List.set_cons_succ, List.take_succ_cons, List.take_zero, List.take_nil, List.drop_succ_cons, List.drop_zero, List.drop_nil, List.append_nil, List.all_cons, List.all_nil, Bool.and_true, Bool.true_and, Bool.and_false, Bool.false_and, Nat.reduceAdd, Nat.zero_add, Nat.add_zero, Nat.reduceEqDiff, if_true, if_false, reduceIte]))
    | (show AW _ _ _ _ _ _ _ _; first | refine aw_region ?_ | (refine aw_seqk ?_; intro K hK))
    | refine thn_n ?_
    | (refine hK _ _ _ ?_; clear hK K))); all_goals (repeat (clear hK K)))
    refine q_callN (u := [(3, niB 3 ds)]) (Ut := nst 4 (niT ds)) rfl rfl rfl (FzL.cons (Fz.of rfl) FzL.nil) (hD _) ?_
    ((repeat' (first
    | (show SQ _ _ _ _ _ _ _ _; first | apply sq_nil | (apply q_fieldAddr; exact rfl; exact rfl; exact (ty rfl); exact rfl; exact rfl; exact rfl; exact rfl) | (apply q_ld1p; exact rfl; exact rfl; exact (ty rfl); exact rfl; exact rfl; exact (by first | rfl | assumption | ((try simp only [Nat.zero_add]); refine List.getElem?_set_self ?_; (try simp only [List.length_set]); assumption)); exact rfl))
    | (show SQ _ _ _ _ _ _ _ _; (first | (apply q_store; exact rfl; exact rfl; exact (ty rfl); exact rfl; exact (by first | rfl | assumption | ((try simp only [Nat.zero_add]); refine List.getElem?_set_self ?_; (try simp only [List.length_set]); assumption)); exact rfl; exact rfl; exact rfl)); (try simp only [put, rowsOf, plR, List.all_cons, selE, ovr, setH, del, cellsA, splice, isV, List.nil_append, List.cons_append, List.map_cons, List.map_nil, List.length_cons, List.length_nil, List.set_cons_zero, List.set_cons_succ, List.take_succ_cons, List.take_zero, List.take_nil, List.drop_succ_cons, List.drop_zero, List.drop_nil, List.append_nil, List.all_cons, List.all_nil, Bool.and_true, Bool.true_and, Bool.and_false, Bool.false_and, Nat.reduceAdd, Nat.zero_add, Nat.add_zero, Nat.reduceEqDiff, if_true, if_false, reduceIte]))
    | (show AW _ _ _ _ _ _ _ _; first | refine aw_region ?_ | (refine aw_seqk ?_; intro K hK))
    | refine thn_n ?_
    | (refine hK _ _ _ ?_; clear hK K))); all_goals (repeat (clear hK K)))
    refine q_callN (u := [(1048581, niB 1048581 ap)]) (Ut := nst 1048582 (niT ap)) rfl rfl rfl (FzL.cons (Fz.of rfl) FzL.nil) (hAp _) ?_
    ((repeat' (first
    | (show SQ _ _ _ _ _ _ _ _; first | apply sq_nil | (apply q_fieldAddr; exact rfl; exact rfl; exact (ty rfl); exact rfl; exact rfl; exact rfl; exact rfl))
    | (show SQ _ _ _ _ _ _ _ _; (first | (apply q_ldap; exact rfl; exact rfl; exact (ty rfl); exact rfl; exact rfl; exact (by first | rfl | assumption | ((try simp only [Nat.zero_add]); refine List.getElem?_set_self ?_; (try simp only [List.length_set]); assumption)); exact rfl) | (apply q_store; exact rfl; exact rfl; exact (ty rfl); exact rfl; exact (by first | rfl | assumption | ((try simp only [Nat.zero_add]); refine List.getElem?_set_self ?_; (try simp only [List.length_set]); assumption)); exact rfl; exact rfl; exact rfl)); (try simp only [put, rowsOf, plR, List.all_cons, selE, ovr, setH, del, cellsA, splice, isV, List.nil_append, List.cons_append, List.map_cons, List.map_nil, List.length_cons, List.length_nil, List.set_cons_zero, List.set_cons_succ, List.take_succ_cons, List.take_zero, List.take_nil, List.drop_succ_cons, List.drop_zero, List.drop_nil, List.append_nil, List.all_cons, List.all_nil, Bool.and_true, Bool.true_and, Bool.and_false, Bool.false_and, Nat.reduceAdd, Nat.zero_add, Nat.add_zero, Nat.reduceEqDiff, if_true, if_false, reduceIte]))
    | (show AW _ _ _ _ _ _ _ _; first | refine aw_region ?_ | (refine aw_seqk ?_; intro K hK) | refine aw_ret ?_)
    | refine thn_n ?_
    | (refine hK _ _ _ ?_; clear hK K))); all_goals (repeat (clear hK K)))
    refine fin_r (fin_ni2 (X := 3) (Y := 1048581) (.r1 _ _ (.agg _ _ _ _ _ rfl (.inr ⟨_, _, _, _, _, rfl, rfl, rfl, rfl⟩) (ty rfl) rfl (Nat.le_of_ble_eq_true rfl))) ?_ ?_ rfl rfl (.cons (by omega) (.cons (by omega) (.cons (by omega) (.cons (by omega) (.cons (by omega) (NstIn.del (by omega) (NstIn.del (by omega) (NstIn.left (NstIn.del (by omega) .here'))))))))) rfl (.cons (by omega) (.cons (by omega) (.cons (by omega) (.cons (by omega) (.cons (by omega) (NstIn.del (by omega) (NstIn.del (by omega) (NstIn.right (fun j hj => by rw [look_del_ne _ (by omega), look_nst, if_pos (by omega), List.getElem?_eq_none (by rw [niT_len]; omega)]) .here')))))))) (by omega))
    · show AV.agg [.sl 3 0 ds.length, .sl 1048581 0 ap.length] = AV.agg [.sl (if 0 ≤ ds.length then 3 + 0 else _) 0 ds.length, .sl (if 1 + ds.length ≤ ds.length then _ else 1048581 + (1 + ds.length - 1 - ds.length)) 0 ap.length]
      rw [if_pos (Nat.zero_le _), if_neg (by omega), show 1048581 + (1 + ds.length - 1 - ds.length) = 1048581 by omega]
    · simp [idsOk, idsOkL, Nat.blt_eq]; omega
  exact RO.ren0 hd (spr k ds.length) (fun i hi => by unfold spr; split <;> omega) (fun i j hi hj he => by unfold spr at he; split at he <;> split at he <;> omega) (by omega) (by simp [idsOk, idsOkL, Nat.blt_eq]; omega)
    (fun i b hb => by
      rcases ni2_mem (look_some_mem hb) with h | h | ⟨j, c, hj, h⟩ | ⟨j, c, hj, h⟩
      · cases h; exact niB_ids (by omega)
      · cases h; exact niB_ids (by omega)
      · cases h; exact niT_ids hj
      · cases h; exact niT_ids hj)
    (by simp only [renA, renL, spr]; rw [if_pos (Nat.zero_le _), if_neg (by omega), show k + 1048578 + (1 + ds.length - 1 - ds.length) = k + 1048578 by omega, Nat.add_zero]) (renH_ni2 (fun j hj => by unfold spr; rw [if_pos (by omega)]; omega) (fun j hj => by unfold spr; rw [if_neg (by omega)]; omega))
end Go.Proofs.Yteknfaldpajlpaa.Nb

namespace Go.Proofs.Yteknfaldpajlpaa.Nb
open Go Go.RowKit Go.Proofs.Yteknfaldpajlpaa.Aw Go.Proofs.Yteknfaldpajlpaa.In Go.Proofs.Yteknfaldpajlpaa.Il
set_option linter.unusedSimpArgs false
set_option linter.unusedVariables false
set_option linter.unusedSectionVars false
attribute [local irreducible] AW SQ Step RO RC DE Thn InB
def idsP (b n b' n' : Nat) : List Nat := List.range' b (n + 1) ++ List.range' b' (n' + 1)
theorem idsP_len {b n b' n' : Nat} : (idsP b n b' n').length = 2 + n + n' := by rw [idsP, List.length_append, List.length_range', List.length_range']; omega
theorem nmC_P1 {b n b' n' k i : Nat} (h : i ≤ n) : nmC (idsP b n b' n') k i = b + i := by
  unfold nmC idsP
  rw [List.getElem?_append_left (by rw [List.length_range']; omega), List.getElem?_range' (by omega)]
  dsimp only; omega
theorem nmC_P2 {b n b' n' k i : Nat} (h : i ≤ n') : nmC (idsP b n b' n') k (1 + n + i) = b' + i := by
  unfold nmC idsP
  rw [List.getElem?_append_right (by rw [List.length_range']; omega), List.length_range', show 1 + n + i - (n + 1) = i by omega, List.getElem?_range' (by omega)]
  dsimp only; omega
theorem idsP_nd {b n b' n' : Nat} (h : b + n < b') : (idsP b n b' n').Nodup := by
  unfold idsP
  rw [List.nodup_append]
  refine ⟨List.nodup_range', List.nodup_range', fun x hx y hy => ?_⟩
  have := List.mem_range'_1.1 hx
  have := List.mem_range'_1.1 hy
  omega
theorem ok_ni2 (ds ap ds' ap' : List (List Int)) (h1 : ds'.length = ds.length) (h2 : ap'.length = ap.length) (x y : Int) : okC (2 + ds.length + ap.length) 0 [.agg [.sl 0 0 ds.length, .sl (1 + ds.length) 0 ap.length], .v (.int .i64 x)] (ni2 0 ds (1 + ds.length) ap) (.v (.int .i64 y)) (someE (ni2 0 ds' (1 + ds.length) ap')) = true := by
  have bl : ∀ {x y : Nat}, x < y → Nat.blt x y = true := fun h => by rw [Nat.blt_eq]; exact h
  have l1 := niT_len ds
  have l2 := niT_len ap
  have l3 := niT_len ds'
  have l4 := niT_len ap'
  unfold okC
  simp only [Bool.and_eq_true]
  refine ⟨⟨⟨⟨⟨?_, ?_⟩, ?_⟩, ?_⟩, rfl⟩, ?_⟩
  · simp only [List.all_cons, List.all_nil, idsOk, idsOkL, bl (show 0 < 2 + ds.length + ap.length by omega), bl (show 1 + ds.length < 2 + ds.length + ap.length by omega), Bool.and_true]
  · refine ni2_shape ?_ ?_ (fun j c hc => ?_) (fun j c hc => ?_)
    · dsimp only; rw [bl (by omega), niB_ids (by omega)]; rfl
    · dsimp only; rw [bl (by omega), niB_ids (by omega)]; rfl
    · have := nlt hc; dsimp only; rw [bl (by omega), niT_ids hc]; rfl
    · have := nlt hc; dsimp only; rw [bl (by omega), niT_ids hc]; rfl
  · rw [List.all_eq_true]
    intro i hi
    have hi := List.mem_range.1 hi
    rw [Bool.and_eq_true]
    constructor
    · exact ni2_look rfl (by omega)
    · rw [List.contains_iff_mem]
      have hs := ni2_look (ds := ds') (ap := ap') (b := 1 + ds.length) (i := i) (by omega) (by omega)
      obtain ⟨c, hc⟩ := Option.isSome_iff_exists.1 hs
      unfold someE
      rw [List.map_map]
      exact List.mem_map.2 ⟨_, look_some_mem hc, rfl⟩
  · unfold someE
    rw [List.all_map]
    refine ni2_shape ?_ ?_ (fun j c hc => ?_) (fun j c hc => ?_)
    · simp only [Function.comp]; rw [bl (by omega), niB_ids (by omega)]; rfl
    · simp only [Function.comp]; rw [bl (by omega), niB_ids (by omega)]; rfl
    · have := nlt hc; simp only [Function.comp]; rw [bl (by omega), niT_ids hc]; rfl
    · have := nlt hc; simp only [Function.comp]; rw [bl (by omega), niT_ids hc]; rfl
  · refine ni2_shape rfl rfl (fun j c hc => ?_) (fun j c hc => ?_)
    · obtain ⟨hj, rfl⟩ := niT_get hc; rfl
    · obtain ⟨hj, rfl⟩ := niT_get hc; rfl
theorem ni2_b {ds ap : List (List Int)} {a b : Nat} (h : a < b) : Aw.look (ni2 a ds b ap) b = some (niB b ap) := by
  rw [ni2, look_cons, if_neg (by omega), look_cons, if_pos rfl]
theorem ni2_A {ds ap : List (List Int)} {a b : Nat} (h : a + ds.length < b) : NstIn (ni2 a ds b ap) (a + 1) (niT ds) := fun j c hc => by
  have := nlt hc
  rw [niT_len] at this
  rw [ni2, look_cons, if_neg (by omega), look_cons, if_neg (by omega), look_append, look_nst_at, hc]; rfl
theorem ni2_B {ds ap : List (List Int)} {a b : Nat} (h : a + ds.length < b) : NstIn (ni2 a ds b ap) (b + 1) (niT ap) := fun j c hc => by
  have := nlt hc
  rw [niT_len] at this
  rw [ni2, look_cons, if_neg (by omega), look_cons, if_neg (by omega), look_append, look_nst, if_pos (by omega), List.getElem?_eq_none (by rw [niT_len]; omega), Option.none_or, look_nst_at]; exact hc
theorem ni2_all {ds ap : List (List Int)} {a b : Nat} (h : a + ds.length < b) : ∀ p ∈ ni2 a ds b ap, Aw.look (ni2 a ds b ap) p.1 = some p.2 :=
  ni2_in (by rw [ni2, look_cons, if_pos rfl]) (ni2_A h) (ni2_b (by omega)) (ni2_B h)
theorem filt_some (U : Hp) : (someE U).filterMap (fun p => p.2.map fun _ => p.1) = U.map (·.1) := by
  induction U with
  | nil => rfl
  | cons p U ih => show p.1 :: _ = _; rw [List.map_cons, ← ih]; rfl
theorem inj_id : ∀ (l : List Nat), injB (fun z => z) l = true := fun l => injB_of fun i _ j _ h => h
set_option maxHeartbeats 4000000 in
theorem markProblem_rc (b b' : Nat) (ds ap : List (List Int)) (hS : NbS ds) (hA : NbS ap) (ht : totN ds + totN ap ≤ 1048576) (hbb : b + ds.length < b') (z : Int) (h0 : 0 ≤ z) (h1 : z ≤ 1048576) (k : Nat) :
    RC Try.prog 32 [.agg [.sl b 0 ds.length, .sl b' 0 ap.length], .v (.int .i64 z)] (ni2 b ds b' ap) k (.v (.int .i64 (z + (totN ds : Int) + (totN ap : Int)))) (someE (ni2 b (mkS z ds) b' (mkS (z + (totN ds : Int)) ap))) k := by
  have hn := hS.n
  have hn2 := hA.n
  have l1 := niT_len ds
  have l2 := niT_len ap
  have m1 := mkS_len ds z
  have m2 := mkS_len ap (z + (totN ds : Int))
  have l3 := niT_len (mkS z ds)
  have l4 := niT_len (mkS (z + (totN ds : Int)) ap)
  refine RC.ofc (g := 2 + ds.length + ap.length) (idsP b ds.length b' ap.length) 0 [.agg [.sl 0 0 ds.length, .sl (1 + ds.length) 0 ap.length], .v (.int .i64 z)] (ni2 0 ds (1 + ds.length) ap) (.v (.int .i64 (z + (totN ds : Int) + (totN ap : Int)))) (someE (ni2 0 (mkS z ds) (1 + ds.length) (mkS (z + (totN ds : Int)) ap))) Try.func32 Try.ntmps32 rfl (goFn_of Try.func32 rfl (by kernel_rfl)) rfl rfl
    ?_ ?_ rfl ?_ rfl ?_ (idsP_nd hbb) idsP_len ?_
  · have e1 := nmC_P1 (b := b) (n := ds.length) (b' := b') (n' := ap.length) (k := k) (i := 0) (by omega)
    have e2 := nmC_P2 (b := b) (n := ds.length) (b' := b') (n' := ap.length) (k := k) (i := 0) (by omega)
    rw [Nat.add_zero] at e1 e2
    rw [Nat.add_zero] at e2
    simp only [List.map_cons, List.map_nil, renA, renL, e1, e2]
  · exact renH_ni2 (fun j hj => by rw [Nat.zero_add]; exact nmC_P1 hj) (fun j hj => nmC_P2 hj)
  · rw [renE_some]
    exact congrArg someE (renH_ni2 (fun j hj => by rw [Nat.zero_add]; exact nmC_P1 (by omega)) (fun j hj => nmC_P2 (by omega)))
  · rw [idsP_len]; exact ok_ni2 ds ap _ _ m1 m2 z _
  refine aw_weak (ρ := fun z => z) (T' := [(0, .agg [.sl 0 0 ds.length, .sl (1 + ds.length) 0 ap.length]), (1, .v (.int .i64 z))]) (H' := ni2 0 ds (1 + ds.length) ap) (n' := 2097156) ⟨⟨⟨by rw [renA_id]; rfl, by simp [idsOk, idsOkL, Nat.blt_eq]; omega⟩, ⟨rfl, rfl⟩, trivial⟩, subH_of _ fun p hp => ?_, inj_id _, fun i hi => ⟨rfl, by omega⟩⟩ ?_
  · rcases ni2_mem hp with rfl | rfl | ⟨j, c, hj, rfl⟩ | ⟨j, c, hj, rfl⟩
    · rw [renB_id]; exact ⟨rfl, niB_ids (by omega), by dsimp only; omega⟩
    · rw [renB_id]
      refine ⟨?_, niB_ids (by omega), by dsimp only; omega⟩
      show Aw.look ((0, niB 0 ds) :: (1 + ds.length, niB (1 + ds.length) ap) :: _) (1 + ds.length) = _
      rw [look_cons, if_neg (by omega), look_cons, if_pos rfl]
    · have := nlt hj
      rw [renB_id]
      refine ⟨?_, niT_ids hj, by dsimp only; omega⟩
      show Aw.look ((0, niB 0 ds) :: (1 + ds.length, niB (1 + ds.length) ap) :: _) (0 + 1 + j) = _
      rw [look_cons, if_neg (by omega), look_cons, if_neg (by omega), look_append, look_nst_at, hj]; rfl
    · have := nlt hj
      rw [renB_id]
      refine ⟨?_, niT_ids hj, by dsimp only; omega⟩
      show Aw.look ((0, niB 0 ds) :: (1 + ds.length, niB (1 + ds.length) ap) :: _) (1 + ds.length + 1 + j) = _
      rw [look_cons, if_neg (by omega), look_cons, if_neg (by omega), look_append, look_nst, if_pos (by omega), List.getElem?_eq_none (by omega), Option.none_or, look_nst_at]; exact hj
  have hM1 := markInt64SS_rc 0 ds hS (by omega) z (by omega) (by omega)
  have hM2 := markInt64SS_rc (1 + ds.length) ap hA (by omega) (z + (totN ds : Int)) (by omega) (by omega)
  ((repeat' (first
    | (show SQ _ _ _ _ _ _ _ _; first | apply sq_nil | (apply q_move; exact rfl; exact rfl) | (apply q_assign; exact rfl; exact rfl) | (apply q_fieldAddr; exact rfl; exact rfl; exact (ty rfl); exact rfl; exact rfl; exact rfl; exact rfl) | (apply q_ld1p; exact rfl; exact rfl; exact (ty rfl); exact rfl; exact rfl; exact (by first | rfl | assumption | ((try simp only [Nat.zero_add]); refine List.getElem?_set_self ?_; (try simp only [List.length_set]); assumption)); exact rfl))
    | (show SQ _ _ _ _ _ _ _ _; (first | (apply q_box; exact rfl; exact rfl; exact rfl)); (try simp only [put, rowsOf, plR, List.all_cons, selE, ovr, setH, del, cellsA, splice, isV, List.nil_append, List.cons_append, List.map_cons, List.map_nil, List.length_cons, List.length_nil, List.set_cons_zero, List.set_cons_succ, List.take_succ_cons, List.take_zero, List.take_nil, List.drop_succ_cons, List.drop_zero, List.drop_nil, List.append_nil, List.all_cons, List.all_nil, Bool.and_true, Bool.true_and, Bool.and_false, Bool.false_and, Nat.reduceAdd, Nat.zero_add, Nat.add_zero, Nat.reduceEqDiff, if_true, if_false, reduceIte]))
    | (show AW _ _ _ _ _ _ _ _; first | refine aw_region ?_ | (refine aw_seqk ?_; intro K hK))
    | refine thn_n ?_
    | (refine hK _ _ _ ?_; clear hK K))); all_goals (repeat (clear hK K)))
  refine q_markN 0 ds (mkS z ds) ((2097156, ⟨50, 2, false, [[.sl 0 0 ds.length, .sl (1 + ds.length) 0 ap.length]]⟩) :: ni2 0 (mkS z ds) (1 + ds.length) ap) rfl rfl rfl (hM1 _) rfl (.cons (by omega) (ni2_A (by omega))) (fun i c hc => ?_) ?_
  · rcases List.mem_cons.1 (look_some_mem hc) with h | h
    · cases h; exact .inr ⟨nest_none (by omega), rfl⟩
    · rcases ni2_mem h with h | h | ⟨j, c', hj, h⟩ | ⟨j, c', hj, h⟩
      · cases h; rw [niB_mk]; exact .inl rfl
      · cases h
        refine .inr ⟨nest_none (by omega), ?_⟩
        rw [look_cons, if_neg (by omega)]; exact ni2_b (by omega)
      · cases h
        have := nlt hj
        refine .inl ?_
        rw [look_cons, if_neg (by omega), Nat.zero_add, look_nst_at]; exact hj
      · cases h
        have := nlt hj
        refine .inr ⟨nest_none (by omega), ?_⟩
        rw [look_cons, if_neg (by omega)]; exact ni2_B (by omega) j _ hj
  ((repeat' (first
    | (show SQ _ _ _ _ _ _ _ _; first | apply sq_nil | (apply q_move; exact rfl; exact rfl) | (apply q_assign; exact rfl; exact rfl) | (apply q_fieldAddr; exact rfl; exact rfl; exact (ty rfl); exact rfl; exact rfl; exact rfl; exact rfl) | (apply q_ld1p; exact rfl; exact rfl; exact (ty rfl); exact rfl; exact rfl; exact (by first | rfl | assumption | ((try simp only [Nat.zero_add]); refine List.getElem?_set_self ?_; (try simp only [List.length_set]); assumption)); exact rfl))
    | (show AW _ _ _ _ _ _ _ _; first | refine aw_region ?_ | (refine aw_seqk ?_; intro K hK))
    | refine thn_n ?_
    | (refine hK _ _ _ ?_; clear hK K))); all_goals (repeat (clear hK K)))
  refine q_markN (1 + ds.length) ap (mkS (z + (totN ds : Int)) ap) (ni2 0 (mkS z ds) (1 + ds.length) (mkS (z + (totN ds : Int)) ap)) rfl rfl rfl (hM2 _) (by rw [look_cons, if_neg (by omega)]; exact ni2_b (by omega)) (.cons (by omega) (ni2_B (by omega))) (fun i c hc => ?_) ?_
  · rcases ni2_mem (look_some_mem hc) with h | h | ⟨j, c', hj, h⟩ | ⟨j, c', hj, h⟩
    · cases h; exact .inr ⟨nest_none (by omega), rfl⟩
    · cases h; rw [niB_mk]; exact .inl (by rw [look_cons, if_pos rfl])
    · cases h
      have := nlt hj
      refine .inr ⟨nest_none (by omega), ?_⟩
      rw [look_cons, if_neg (by omega)]; exact ni2_A (by omega) j _ hj
    · cases h
      have := nlt hj
      refine .inl ?_
      rw [look_cons, if_neg (by omega), look_nst_at]; exact hj
  ((repeat' (first
    | (show SQ _ _ _ _ _ _ _ _; first | apply sq_nil | (apply q_move; exact rfl; exact rfl) | (apply q_assign; exact rfl; exact rfl))
    | (show AW _ _ _ _ _ _ _ _; first | refine aw_region ?_ | (refine aw_seqk ?_; intro K hK) | refine aw_ret ?_)
    | refine thn_n ?_
    | (refine hK _ _ _ ?_; clear hK K))); all_goals (repeat (clear hK K)))
  refine finc (fun z => z) (.r1 _ _ (.tmp _ _ rfl)) rfl (fun _ _ => rfl) (liveE_some _ fun p hp => ?_) (by rw [filt_some]; exact inj_id _)
  rw [renB_id]
  exact ni2_all (by omega) p hp
end Go.Proofs.Yteknfaldpajlpaa.Nb

namespace Go.Proofs.Yteknfaldpajlpaa.Nb
open Go Go.RowKit Go.Proofs.Yteknfaldpajlpaa.Aw Go.Proofs.Yteknfaldpajlpaa.In Go.Proofs.Yteknfaldpajlpaa.Il
set_option linter.unusedSimpArgs false
set_option linter.unusedVariables false
set_option linter.unusedSectionVars false
theorem q_markU {P : Program} {N n d : Nat} {all : Array Oper} {l : List Oper} {G : Tp → Hp → Nat → Prop} {T : Tp} {H : Hp} {f : Operand} {xs : Array Operand} {ts : Array TypeId} {args : List AV} {v : AV} {g : FuncId} {ty : TypeId} {pos : String} {after : Array Edge} (U Um H' : Hp)
    (hd : Nat.blt d N = true) (hf : evalA T f = some (.fn g [])) (ha : evalL T xs.toList = some args)
    (hrc : RC P g args U n v (someE Um) n) (hl : ∀ p ∈ U, Aw.look H p.1 = some p.2)
    (hH : ∀ i c, Aw.look H' i = some c → Aw.look Um i = some c ∨ (Aw.look Um i = none ∧ Aw.look H i = some c))
    (h : SQ P N all l G ((d, v) :: T) H' n) : SQ P N all (⟨some d, .call { callee := .value f, args := xs, argTypes := ts }, ty, pos, after, none⟩ :: l) G T H n := by
  refine q_callC (n' := n) (dst := some d) hd hf ha (by rw [List.append_nil]; exact hrc) (subE_of hl) (sq_sub (fun i c hc => ?_) h)
  rw [look_ovr, lkE_someE]
  rcases hH i c hc with h | ⟨h1, h2⟩
  · rw [h]; rfl
  · rw [h1]; exact h2
theorem fz_pr {H : Hp} {a b m m' : Nat} {ds ap : List (List Int)} (h1 : Aw.look H a = some (niB a ds)) (h2 : NstIn H (a + 1) (niT ds)) (h3 : Aw.look H b = some (niB b ap)) (h4 : NstIn H (b + 1) (niT ap)) (hm : m = ds.length) (hm' : m' = ap.length) : Fz H (.agg [.sl a 0 m, .sl b 0 m']) (.agg [.dsl 1 (nbL ds), .dsl 1 (nbL ap)]) :=
  Fz.agg (FzL.cons (fz_ni h1 h2 hm) (FzL.cons (fz_ni h3 h4 hm') FzL.nil))
theorem NstIn.ovr {H U : Hp} {b : Nat} {bs : List Blk} (hn : ∀ j, j < bs.length → Aw.look U (b + j) = none) (h : NstIn H b bs) : NstIn (ovr (someE U) H) b bs := fun j c hc => by
  rw [look_ovr, lkE_someE, hn j (nlt hc)]; exact h j c hc
theorem NstIn.new {H U : Hp} {b : Nat} {bs : List Blk} (h : NstIn U b bs) : NstIn (Aw.ovr (someE U) H) b bs := fun j c hc => by
  rw [look_ovr, lkE_someE, h j c hc]; rfl
theorem ovr_new {U H : Hp} {i : Nat} {c : Blk} (h : Aw.look U i = some c) : Aw.look (Aw.ovr (someE U) H) i = some c := by rw [look_ovr, lkE_someE, h]; rfl
theorem ovr_old {U H : Hp} {i : Nat} {c : Blk} (h : Aw.look U i = none) (h2 : Aw.look H i = some c) : Aw.look (Aw.ovr (someE U) H) i = some c := by rw [look_ovr, lkE_someE, h]; exact h2
theorem ni2_none {ds ap : List (List Int)} {a b i : Nat} (h : i < a ∨ a + ds.length < i ∧ i < b ∨ b + ap.length < i) (hab : a + ds.length < b) : Aw.look (ni2 a ds b ap) i = none := by
  rw [ni2, look_cons, if_neg (by omega), look_cons, if_neg (by omega), look_append, look_nst, look_nst]
  split
  · rw [List.getElem?_eq_none (by rw [niT_len]; omega), Option.none_or]
    split
    · rw [List.getElem?_eq_none (by rw [niT_len]; omega)]
    · rfl
  · rw [Option.none_or]
    split
    · rw [List.getElem?_eq_none (by rw [niT_len]; omega)]
    · rfl
theorem canon_lt {O : Hp} {b1 b2 k : Nat} {L1 L2 : List Blk} (h : (O.map (·.1)).all (fun i => Nat.blt i k) = true) (h1 : b1 + L1.length ≤ k) (h2 : b2 + L2.length ≤ k) : ∀ i c, Aw.look (O ++ (nst b1 L1 ++ nst b2 L2)) i = some c → i < k := by
  intro i c hc
  rcases List.mem_append.1 (look_some_mem hc) with hm | hm
  · have := List.all_eq_true.1 h i (List.mem_map.2 ⟨_, hm, rfl⟩)
    simpa [Nat.blt_eq] using this
  · rcases List.mem_append.1 hm with hm | hm
    · obtain ⟨j, g1, g2⟩ := nst_mem _ _ _ hm
      have := nlt g1
      dsimp only at g2; omega
    · obtain ⟨j, g1, g2⟩ := nst_mem _ _ _ hm
      have := nlt g1
      dsimp only at g2; omega
attribute [local irreducible] AW SQ Step RO RC DE
set_option maxHeartbeats 4000000 in
theorem lawRep_ro (ds ap : List (List Int)) (list frz : List Int) (bu : Int) (hn : ds.length ≤ 9223372036854775807) (hl : ∀ l ∈ ds, l.length ≤ 9223372036854775807) (hn2 : ap.length ≤ 9223372036854775807) (hl2 : ∀ l ∈ ap, l.length ≤ 9223372036854775807)
    (hc : list.length ≤ 9223372036854775807) (hf : frz.length ≤ 9223372036854775807) (k : Nat) :
    RO Try.prog 6 [.agg [.dsl 1 (nbL ds), .dsl 1 (nbL ap)], .dsl 1 (list.map inL), .dsl 1 (frz.map inL), .v (.int .i64 bu)] k (.v (.bool true)) [] k := by
  have hml : (list.map inL).length = list.length := List.length_map _
  have hfl : (frz.map inL).length = frz.length := List.length_map _
  have hsz := szProblem_ro ds ap hn hl hn2 hl2
  refine RO.ofv' Try.func6 Try.ntmps6 rfl (goFn_of Try.func6 rfl (by kernel_rfl)) rfl rfl ?_
  by_cases c0 : (1048576 : Int) < (list.length : Int)
  · have b0 : decide ((1048576 : Int) < ((list.map inL).length : Int)) = true := by rw [hml]; simpa using c0
    ((repeat' (first
    | (show SQ _ _ _ _ _ _ _ _; first | apply sq_nil | (apply q_move; exact rfl; exact rfl) | (apply q_assign; exact rfl; exact rfl) | (apply q_lend; exact rfl; exact rfl; exact (ty rfl); exact rfl) | (apply q_gtr; exact rfl; exact rfl; exact rfl))
    | (show SQ _ _ _ _ _ _ _ _; (first | (apply q_box; exact rfl; exact rfl; exact rfl)); (try simp only [put, rowsOf, plR, List.all_cons, selE, ovr, setH, del, cellsA, splice, isV, List.nil_append, List.cons_append, List.map_cons, List.map_nil, List.length_cons, List.length_nil, List.set_cons_zero, List.set_cons_succ, List.take_succ_cons, List.take_zero, List.take_nil, List.drop_succ_cons, List.drop_zero, List.drop_nil, List.append_nil, List.all_cons, List.all_nil, Bool.and_true, Bool.true_and, Bool.and_false, Bool.false_and, Nat.reduceAdd, Nat.zero_add, Nat.add_zero, Nat.reduceEqDiff, if_true, if_false, reduceIte]))
    | (show AW _ _ _ _ _ _ _ _; first | refine aw_region ?_ | (refine aw_seqk ?_; intro K hK) | (apply aw_cond_t; exact rfl; exact (by assumption)) | refine aw_ret ?_)
    | refine thn_n ?_
    | (refine hK _ _ _ ?_; clear hK K)
    | refine thn_r ?_)); all_goals (repeat (clear hK K)))
    all_goals exact fin_r (fin_b rfl rfl)
  have b0 : decide ((1048576 : Int) < ((list.map inL).length : Int)) = false := by rw [hml]; simpa using c0
  by_cases c1 : (1048576 : Int) < (frz.length : Int)
  · have b1 : decide ((1048576 : Int) < ((frz.map inL).length : Int)) = true := by rw [hfl]; simpa using c1
    ((repeat' (first
    | (show SQ _ _ _ _ _ _ _ _; first | apply sq_nil | (apply q_move; exact rfl; exact rfl) | (apply q_assign; exact rfl; exact rfl) | (apply q_lend; exact rfl; exact rfl; exact (ty rfl); exact rfl) | (apply q_gtr; exact rfl; exact rfl; exact rfl))
    | (show SQ _ _ _ _ _ _ _ _; (first | (apply q_box; exact rfl; exact rfl; exact rfl)); (try simp only [put, rowsOf, plR, List.all_cons, selE, ovr, setH, del, cellsA, splice, isV, List.nil_append, List.cons_append, List.map_cons, List.map_nil, List.length_cons, List.length_nil, List.set_cons_zero, List.set_cons_succ, List.take_succ_cons, List.take_zero, List.take_nil, List.drop_succ_cons, List.drop_zero, List.drop_nil, List.append_nil, List.all_cons, List.all_nil, Bool.and_true, Bool.true_and, Bool.and_false, Bool.false_and, Nat.reduceAdd, Nat.zero_add, Nat.add_zero, Nat.reduceEqDiff, if_true, if_false, reduceIte]))
    | (show AW _ _ _ _ _ _ _ _; first | refine aw_region ?_ | (refine aw_seqk ?_; intro K hK) | (apply aw_cond_t; exact rfl; exact (by assumption)) | (apply aw_cond_f; exact rfl; exact (by assumption)) | refine aw_ret ?_ | refine aw_skip ?_)
    | refine thn_n ?_
    | (refine hK _ _ _ ?_; clear hK K)
    | refine thn_r ?_)); all_goals (repeat (clear hK K)))
    all_goals exact fin_r (fin_b rfl rfl)
  have b1 : decide ((1048576 : Int) < ((frz.map inL).length : Int)) = false := by rw [hfl]; simpa using c1
  by_cases c2 : szP ds ap < 0
  · have b2 : decide (szP ds ap < 0) = true := by simpa using c2
    ((repeat' (first
    | (show SQ _ _ _ _ _ _ _ _; first | apply sq_nil | (apply q_move; exact rfl; exact rfl) | (apply q_assign; exact rfl; exact rfl) | (apply q_lend; exact rfl; exact rfl; exact (ty rfl); exact rfl) | (apply q_lss; exact rfl; exact rfl; exact rfl) | (apply q_gtr; exact rfl; exact rfl; exact rfl))
    | (show SQ _ _ _ _ _ _ _ _; (first | (apply q_ldap; exact rfl; exact rfl; exact (ty rfl); exact rfl; exact rfl; exact (by first | rfl | assumption | ((try simp only [Nat.zero_add]); refine List.getElem?_set_self ?_; (try simp only [List.length_set]); assumption)); exact rfl) | (apply q_box; exact rfl; exact rfl; exact rfl) | (apply q_callU; exact rfl; exact rfl; exact rfl; exact FzL.of rfl; exact hsz _)); (try simp only [put, rowsOf, plR, List.all_cons, selE, ovr, setH, del, cellsA, splice, isV, List.nil_append, List.cons_append, List.map_cons, List.map_nil, List.length_cons, List.length_nil, List.set_cons_zero, List.set_cons_succ, List.take_succ_cons, List.take_zero, List.take_nil, List.drop_succ_cons, List.drop_zero, List.drop_nil, List.append_nil, List.all_cons, List.all_nil, Bool.and_true, Bool.true_and, Bool.and_false, Bool.false_and, Nat.reduceAdd, Nat.zero_add, Nat.add_zero, Nat.reduceEqDiff, if_true, if_false, reduceIte]))
    | (show AW _ _ _ _ _ _ _ _; first | refine aw_region ?_ | (refine aw_seqk ?_; intro K hK) | (apply aw_cond_t; exact rfl; exact (by assumption)) | (apply aw_cond_f; exact rfl; exact (by assumption)) | refine aw_ret ?_ | refine aw_skip ?_)
    | refine thn_n ?_
    | (refine hK _ _ _ ?_; clear hK K)
    | refine thn_r ?_)); all_goals (repeat (clear hK K)))
    all_goals exact fin_r (fin_b rfl rfl)
  have b2 : decide (szP ds ap < 0) = false := by simpa using c2
  obtain ⟨hS, hA, htot⟩ : NbS ds ∧ NbS ap ∧ totN ds + totN ap ≤ 1048576 := by
    unfold szP at c2
    split at c2
    · exact absurd c2 (by decide)
    · rename_i g1
      rw [if_neg (fun e => by rw [if_pos e] at c2; exact absurd c2 (by decide))] at c2
      obtain ⟨x1, x2, x3, x4⟩ := szSS_lo (by omega) g1
      obtain ⟨y1, y2, y3, y4⟩ := szSS_lo x3 c2
      refine ⟨x1, y1, ?_⟩
      have z : szSS ds 1048576 ≤ 1048576 - ds.length - totN ds := by
        have key : ∀ (ls : List (List Int)) (z : Int), z ≤ 1048576 → 0 ≤ z → ¬ szL ls z < 0 → szL ls z ≤ z - totN ls := by
          intro ls
          induction ls with
          | nil => intro z _ _ _; simp [szL, totN]
          | cons l ls ih =>
            intro z hz h0 h
            rw [szL] at h ⊢
            split at h
            · exact absurd h (by decide)
            · rename_i hc
              rw [if_neg hc]
              obtain ⟨g1, g2, g3, g4⟩ := szB_in hz h0 hc
              have := ih _ g3 g2 h
              have e : szB l.length z = z - l.length := by
                unfold szB at hc ⊢; split at hc
                · exact absurd hc (by decide)
                · rename_i h; rw [if_neg h]
              rw [e] at this ⊢
              simp only [totN, List.map_cons, List.sum_cons] at this ⊢
              omega
        unfold szSS at g1 ⊢
        split at g1
        · exact absurd g1 (by decide)
        · rename_i hc
          rw [if_neg hc]
          exact key ds _ (by omega) (by omega) g1
      omega
  obtain ⟨cs, m, e, hcn, hI, hSp⟩ := Rep_both ds ap list frz hS hA (by omega) (by omega) bu
  have hcl : (cs.map inL).length = cs.length := List.length_map _
  have hT := toProblem_ro ds ap hS hA
  have hTl := toInt64S_ro list (by omega)
  have hTf := toInt64S_ro frz (by omega)
  have hnl := hS.n
  have hnl2 := hA.n
  have hNl := niT_len ds
  have hNl2 := niT_len ap
  have hE0 := eqProblem_ro ds ap hS hA
  have hE1 := eqInt64S_ro cs (by omega)
  have hE2 := eqInt64S_ro list (by omega)
  have hE3 := eqInt64S_ro frz (by omega)
  have hMp := markProblem_rc 2097160 3145738 ds ap hS hA (by omega) (by omega) 1 (by omega) (by omega)
  have hM2 := markInt64S_rc 4194317 list (1 + (totN ds : Int) + (totN ap : Int)) (by omega) (by omega) (by omega)
  have hM3 := markInt64S_rc 4194318 frz (1 + (totN ds : Int) + (totN ap : Int) + (list.length : Int)) (by omega) (by omega) (by omega)
  have hM4 := markInt64S_rc 4194319 cs 1 (by omega) (by omega) (by omega)
  have hH := heldInt64S_ro cs.length 1 (by omega) (by omega) (by omega)
  have z2 : decide (1 + (totN ds : Int) + (totN ap : Int) + (list.length : Int) + (frz.length : Int) < 0) = false := by simp; omega
  have z3 : decide (1 + (cs.length : Int) < 0) = false := by simp; omega
  have z4 : (1 + (cs.length : Int) != 1 + (cs.length : Int)) = false := by simp
  have z0 : (e != e) = false := by simp
  have z1 : (m != m) = false := by simp
  ((repeat' (first
    | (show SQ _ _ _ _ _ _ _ _; first | apply sq_nil | (apply q_move; exact rfl; exact rfl) | (apply q_assign; exact rfl; exact rfl) | (apply q_lend; exact rfl; exact rfl; exact (ty rfl); exact rfl) | (apply q_lss; exact rfl; exact rfl; exact rfl) | (apply q_gtr; exact rfl; exact rfl; exact rfl))
    | (show SQ _ _ _ _ _ _ _ _; (first | (apply q_ldap; exact rfl; exact rfl; exact (ty rfl); exact rfl; exact rfl; exact (by first | rfl | assumption | ((try simp only [Nat.zero_add]); refine List.getElem?_set_self ?_; (try simp only [List.length_set]); assumption)); exact rfl) | (apply q_box; exact rfl; exact rfl; exact rfl) | (apply q_callU; exact rfl; exact rfl; exact rfl; exact FzL.of rfl; exact hsz _)); (try simp only [put, rowsOf, plR, List.all_cons, selE, ovr, setH, del, cellsA, splice, isV, List.nil_append, List.cons_append, List.map_cons, List.map_nil, List.length_cons, List.length_nil, List.set_cons_zero, List.set_cons_succ, List.take_succ_cons, List.take_zero, List.take_nil, List.drop_succ_cons, List.drop_zero, List.drop_nil, List.append_nil, List.all_cons, List.all_nil, Bool.and_true, Bool.true_and, Bool.and_false, Bool.false_and, Nat.reduceAdd, Nat.zero_add, Nat.add_zero, Nat.reduceEqDiff, if_true, if_false, reduceIte]))
    | (show AW _ _ _ _ _ _ _ _; first | refine aw_region ?_ | (refine aw_seqk ?_; intro K hK) | (apply aw_cond_f; exact rfl; exact (by assumption)) | refine aw_skip ?_)
    | refine thn_n ?_
    | (refine hK _ _ _ ?_; clear hK K))); all_goals (repeat (clear hK K)))
  refine q_callN (u := [(1, niB 1 ds), (1048579, niB 1048579 ap)]) rfl rfl rfl (FzL.cons (Fz.of rfl) FzL.nil) (hT _) ?_
  ((repeat' (first
    | (show SQ _ _ _ _ _ _ _ _; first | (apply q_move; exact rfl; exact rfl))
    | (show SQ _ _ _ _ _ _ _ _; (first | (apply q_callU; exact rfl; exact rfl; exact rfl; exact FzL.of rfl; exact hTl _) | (apply q_callU; exact rfl; exact rfl; exact rfl; exact FzL.of rfl; exact hTf _)); (try simp only [put, rowsOf, plR, List.all_cons, selE, ovr, setH, del, cellsA, splice, isV, List.nil_append, List.cons_append, List.map_cons, List.map_nil, List.length_cons, List.length_nil, List.set_cons_zero, List.set_cons_succ, List.take_succ_cons, List.take_zero, List.take_nil, List.drop_succ_cons, List.drop_zero, List.drop_nil, List.append_nil, List.all_cons, List.all_nil, Bool.and_true, Bool.true_and, Bool.and_false, Bool.false_and, Nat.reduceAdd, Nat.zero_add, Nat.add_zero, Nat.reduceEqDiff, if_true, if_false, reduceIte])))); all_goals (repeat (clear hK K)))
  refine q_callU rfl rfl rfl (FzL.cons (fz_pr rfl (.cons (by omega) (.cons (by omega) (.cons (by omega) (.cons (by omega) (.cons (by omega) (NstIn.left .here')))))) rfl (.cons (by omega) (.cons (by omega) (.cons (by omega) (.cons (by omega) (.cons (by omega) (.skip (by omega) .here')))))) rfl rfl) (FzL.cons (fz_in rfl rfl) (FzL.cons (fz_in rfl rfl) (FzL.cons (Fz.of rfl) FzL.nil)))) (hSp _) ?_
  refine sq_sub (canon0 (O := [(2097159, ⟨2, 1, true, cs.map inL⟩), (0, ⟨47, 2, false, [[.dsl 1 (nbL ds), .dsl 1 (nbL ap)]]⟩)]) ⟨rfl, rfl, trivial⟩) ?_
  ((repeat' (first
    | (show SQ _ _ _ _ _ _ _ _; first | apply sq_nil | (apply q_move; exact rfl; exact rfl) | (apply q_assign; exact rfl; exact rfl) | (apply q_ext; exact rfl; exact rfl; exact rfl))
    | (show SQ _ _ _ _ _ _ _ _; (first | (apply q_ldap; exact rfl; exact rfl; exact (ty rfl); exact rfl; exact rfl; exact (by first | rfl | assumption | ((try simp only [Nat.zero_add]); refine List.getElem?_set_self ?_; (try simp only [List.length_set]); assumption)); exact rfl)); (try simp only [put, rowsOf, plR, List.all_cons, selE, ovr, setH, del, cellsA, splice, isV, List.nil_append, List.cons_append, List.map_cons, List.map_nil, List.length_cons, List.length_nil, List.set_cons_zero, List.set_cons_succ, List.take_succ_cons, List.take_zero, List.take_nil, List.drop_succ_cons, List.drop_zero, List.drop_nil, List.append_nil, List.all_cons, List.all_nil, Bool.and_true, Bool.true_and, Bool.and_false, Bool.false_and, Nat.reduceAdd, Nat.zero_add, Nat.add_zero, Nat.reduceEqDiff, if_true, if_false, reduceIte]))
    | (show AW _ _ _ _ _ _ _ _; first | refine aw_region ?_ | (refine aw_seqk ?_; intro K hK))
    | refine thn_n ?_
    | (refine hK _ _ _ ?_; clear hK K))); all_goals (repeat (clear hK K)))
  refine q_callN (u := [(2097160, niB 2097160 ds), (3145738, niB 3145738 ap)]) rfl rfl rfl (FzL.cons (Fz.of rfl) FzL.nil) (hT _) ?_
  ((repeat' (first
    | (show SQ _ _ _ _ _ _ _ _; first | apply sq_nil | (apply q_move; exact rfl; exact rfl) | (apply q_assign; exact rfl; exact rfl))
    | (show SQ _ _ _ _ _ _ _ _; (first | (apply q_ldap; exact rfl; exact rfl; exact (ty rfl); exact rfl; exact rfl; exact (by first | rfl | assumption | ((try simp only [Nat.zero_add]); refine List.getElem?_set_self ?_; (try simp only [List.length_set]); assumption)); exact rfl) | (apply q_alloc; exact rfl; exact (ty rfl); exact rfl; exact rfl) | (apply q_store; exact rfl; exact rfl; exact (ty rfl); exact rfl; exact (by first | rfl | assumption | ((try simp only [Nat.zero_add]); refine List.getElem?_set_self ?_; (try simp only [List.length_set]); assumption)); exact rfl; exact rfl; exact rfl) | (apply q_callU; exact rfl; exact rfl; exact rfl; exact FzL.of rfl; exact hTl _) | (apply q_callU; exact rfl; exact rfl; exact rfl; exact FzL.of rfl; exact hTf _)); (try simp only [put, rowsOf, plR, List.all_cons, selE, ovr, setH, del, cellsA, splice, isV, List.nil_append, List.cons_append, List.map_cons, List.map_nil, List.length_cons, List.length_nil, List.set_cons_zero, List.set_cons_succ, List.take_succ_cons, List.take_zero, List.take_nil, List.drop_succ_cons, List.drop_zero, List.drop_nil, List.append_nil, List.all_cons, List.all_nil, Bool.and_true, Bool.true_and, Bool.and_false, Bool.false_and, Nat.reduceAdd, Nat.zero_add, Nat.add_zero, Nat.reduceEqDiff, if_true, if_false, reduceIte]))
    | (show AW _ _ _ _ _ _ _ _; first | refine aw_region ?_ | (refine aw_seqk ?_; intro K hK))
    | refine thn_n ?_
    | (refine hK _ _ _ ?_; clear hK K))); all_goals (repeat (clear hK K)))
  refine q_callU rfl rfl rfl (FzL.cons (fz_pr rfl (.cons (by omega) (.cons (by omega) (.cons (by omega) (.cons (by omega) (.cons (by omega) (.cons (by omega) (.cons (by omega) (NstIn.del (by omega) (NstIn.left .here'))))))))) rfl (.cons (by omega) (.cons (by omega) (.cons (by omega) (.cons (by omega) (.cons (by omega) (.cons (by omega) (.cons (by omega) (NstIn.del (by omega) (.skip (by omega) .here'))))))))) rfl rfl) (FzL.cons (fz_in rfl rfl) (FzL.cons (fz_in rfl rfl) (FzL.cons (Fz.of rfl) FzL.nil)))) (hI _) ?_
  refine sq_sub (canon (O := [(4194319, ⟨2, 1, true, cs.map inL⟩), (4194318, ⟨2, 1, true, frz.map inL⟩), (4194317, ⟨2, 1, true, list.map inL⟩), (4194316, ⟨50, 2, false, [[.sl 2097160 0 ds.length, .sl 3145738 0 ap.length]]⟩), (2097160, niB 2097160 ds), (3145738, niB 3145738 ap), (2097159, ⟨2, 1, true, cs.map inL⟩), (0, ⟨47, 2, false, [[.dsl 1 (nbL ds), .dsl 1 (nbL ap)]]⟩)]) (b1 := 2097161) (b2 := 3145739) (L1 := niT ds) (L2 := niT ap) ⟨rfl, rfl, rfl, rfl, rfl, rfl, rfl, rfl, trivial⟩
    (.cons (by omega) (.cons (by omega) (.cons (by omega) (.cons (by omega) (.cons (by omega) (.cons (by omega) (.cons (by omega) (.cons (by omega) (NstIn.del (by omega) (NstIn.left .here')))))))))) (.cons (by omega) (.cons (by omega) (.cons (by omega) (.cons (by omega) (.cons (by omega) (.cons (by omega) (.cons (by omega) (.cons (by omega) (NstIn.del (by omega) (.skip (by omega) .here'))))))))))) ?_
  ((repeat' (first
    | (show SQ _ _ _ _ _ _ _ _; first | apply sq_nil | (apply q_move; exact rfl; exact rfl) | (apply q_assign; exact rfl; exact rfl) | (apply q_pick_f; exact rfl; exact rfl; exact rfl; exact (by first | assumption | exact rfl)) | (apply q_not; exact rfl; exact rfl) | (apply q_ext; exact rfl; exact rfl; exact rfl) | (apply q_neq; exact rfl; exact rfl; exact rfl) | (apply q_g; exact rfl; exact rfl; exact rfl; exact (by assumption)))
    | (show SQ _ _ _ _ _ _ _ _; (first | (apply q_callU; exact rfl; exact rfl; exact rfl; rotate_left; exact hE1 _; rotate_right; focus ((repeat' (first | exact FzL.nil | exact (by assumption : FzC _) _ | refine FzL.cons ?_ ?_ | exact Fz.of rfl | exact Fz.nil | exact Fz.emp | (apply Fz.fnC; assumption) | (apply Fz.sl2; exact rfl; exact (by first | omega | (simp; done) | (simp; omega)); first | exact rfl | exact dt_full (by first | omega | (simp; done) | (simp; omega)) | assumption) | apply Fz.agg | (apply Fz.ptrL; exact rfl; first | exact rfl | assumption) | apply Fz.fnL)); done))); (try simp only [put, rowsOf, plR, List.all_cons, selE, ovr, setH, del, cellsA, splice, isV, List.nil_append, List.cons_append, List.map_cons, List.map_nil, List.length_cons, List.length_nil, List.set_cons_zero, List.set_cons_succ, List.take_succ_cons, List.take_zero, List.take_nil, List.drop_succ_cons, List.drop_zero, List.drop_nil, List.append_nil, List.all_cons, List.all_nil, Bool.and_true, Bool.true_and, Bool.and_false, Bool.false_and, Nat.reduceAdd, Nat.zero_add, Nat.add_zero, Nat.reduceEqDiff, if_true, if_false, reduceIte]))
    | (show DE _ _ _ _ _ _ _ _ _ _ _ _; (first | (apply e_ldap; exact rfl; exact rfl; exact (ty rfl); exact rfl; exact rfl; exact (by first | rfl | assumption | ((try simp only [Nat.zero_add]); refine List.getElem?_set_self ?_; (try simp only [List.length_set]); assumption)); exact rfl; exact rfl)); (try simp only [put, rowsOf, plR, List.all_cons, selE, ovr, setH, del, cellsA, splice, isV, List.nil_append, List.cons_append, List.map_cons, List.map_nil, List.length_cons, List.length_nil, List.set_cons_zero, List.set_cons_succ, List.take_succ_cons, List.take_zero, List.take_nil, List.drop_succ_cons, List.drop_zero, List.drop_nil, List.append_nil, List.all_cons, List.all_nil, Bool.and_true, Bool.true_and, Bool.and_false, Bool.false_and, Nat.reduceAdd, Nat.zero_add, Nat.add_zero, Nat.reduceEqDiff, if_true, if_false, reduceIte]))
    | (show AW _ _ _ _ _ _ _ _; first | refine aw_region ?_ | (refine aw_seqk ?_; intro K hK) | (apply aw_cond_f; exact rfl; exact (by assumption)) | refine aw_skip ?_ | refine aw_drawE (id := 16) [0, 0, 2, 7, 15] [1, 1, 1, 1, 0] mixed (by kernel_rfl) ?_)
    | refine thn_n ?_
    | (refine hK _ _ _ ?_; clear hK K))); all_goals (repeat (clear hK K)))
  refine e_callU rfl rfl rfl (FzL.cons (Fz.of rfl) FzL.nil) (hT _) rfl ?_
  refine e_callU (args' := [.agg [.dsl 1 (nbL ds), .dsl 1 (nbL ap)], .agg [.dsl 1 (nbL ds), .dsl 1 (nbL ap)]]) rfl rfl rfl ?_ (hE0 _) rfl ?_
  · show FzL (Aw.ovr (someE (ni2 4194320 ds 5242898 ap)) _) _ _
    refine FzL.cons (fz_pr (ovr_old (ni2_none (by omega) (by omega)) rfl) (NstIn.ovr (fun j hj => ni2_none (by omega) (by omega)) ?_) (ovr_old (ni2_none (by omega) (by omega)) rfl) (NstIn.ovr (fun j hj => ni2_none (by omega) (by omega)) ?_) rfl rfl) (FzL.cons (fz_pr (ovr_new rfl) (NstIn.new (ni2_A (by omega))) (ovr_new (ni2_b (by omega))) (NstIn.new (ni2_B (by omega))) rfl rfl) FzL.nil)
    · exact (.cons (by omega) (.cons (by omega) (.cons (by omega) (.cons (by omega) (.cons (by omega) (.cons (by omega) (.cons (by omega) (.cons (by omega) (NstIn.left .here')))))))))
    · exact (.cons (by omega) (.cons (by omega) (.cons (by omega) (.cons (by omega) (.cons (by omega) (.cons (by omega) (.cons (by omega) (.cons (by omega) (.skip (by omega) .here')))))))))
  ((repeat' (first
    | (show SQ _ _ _ _ _ _ _ _; first | (apply q_move; exact rfl; exact rfl))
    | (show DE _ _ _ _ _ _ _ _ _ _ _ _; first | (apply e_not; exact rfl; exact rfl; exact rfl))
    | (show DE _ _ _ _ _ _ _ _ _ _ _ _; (first | (apply dr_nil; exact trivial)); (try simp only [put, rowsOf, plR, List.all_cons, selE, ovr, setH, del, cellsA, splice, isV, List.nil_append, List.cons_append, List.map_cons, List.map_nil, List.length_cons, List.length_nil, List.set_cons_zero, List.set_cons_succ, List.take_succ_cons, List.take_zero, List.take_nil, List.drop_succ_cons, List.drop_zero, List.drop_nil, List.append_nil, List.all_cons, List.all_nil, Bool.and_true, Bool.true_and, Bool.and_false, Bool.false_and, Nat.reduceAdd, Nat.zero_add, Nat.add_zero, Nat.reduceEqDiff, if_true, if_false, reduceIte]))
    | (show AW _ _ _ _ _ _ _ _; first | refine aw_region ?_ | (refine aw_seqk ?_; intro K hK) | (apply aw_cond_f; exact rfl; exact rfl) | refine aw_skip ?_)
    | refine thn_n ?_
    | (refine hK _ _ _ ?_; clear hK K))); all_goals (repeat (clear hK K)))
  refine sq_sub (H' := [(4194319, ⟨2, 1, true, cs.map inL⟩), (4194318, ⟨2, 1, true, frz.map inL⟩), (4194317, ⟨2, 1, true, list.map inL⟩), (4194316, ⟨50, 2, false, [[.sl 2097160 0 ds.length, .sl 3145738 0 ap.length]]⟩), (2097160, niB 2097160 ds), (3145738, niB 3145738 ap), (2097159, ⟨2, 1, true, cs.map inL⟩), (0, ⟨47, 2, false, [[.dsl 1 (nbL ds), .dsl 1 (nbL ap)]]⟩)] ++ (nst 2097161 (niT ds) ++ nst 3145739 (niT ap)))
    (fun i c hc => ovr_old (U := ni2 4194320 ds 5242898 ap) (ni2_none (.inl (canon_lt (k := 4194320) rfl (by omega) (by omega) i c hc)) (by omega)) hc) ?_
  ((repeat' (first
    | (show SQ _ _ _ _ _ _ _ _; first | apply sq_nil | (apply q_move; exact rfl; exact rfl) | (apply q_assign; exact rfl; exact rfl) | (apply q_not; exact rfl; exact rfl))
    | (show SQ _ _ _ _ _ _ _ _; (first | (apply q_ldap; exact rfl; exact rfl; exact (ty rfl); exact rfl; exact rfl; exact (by first | rfl | assumption | ((try simp only [Nat.zero_add]); refine List.getElem?_set_self ?_; (try simp only [List.length_set]); assumption)); exact rfl) | (apply q_callU; exact rfl; exact rfl; exact rfl; exact FzL.of rfl; exact hTl _) | (apply q_callU; exact rfl; exact rfl; exact rfl; exact FzL.of rfl; exact hTf _) | (apply q_callU; exact rfl; exact rfl; exact rfl; rotate_left; exact hE2 _; rotate_right; focus ((repeat' (first | exact FzL.nil | exact (by assumption : FzC _) _ | refine FzL.cons ?_ ?_ | exact Fz.of rfl | exact Fz.nil | exact Fz.emp | (apply Fz.fnC; assumption) | (apply Fz.sl2; exact rfl; exact (by first | omega | (simp; done) | (simp; omega)); first | exact rfl | exact dt_full (by first | omega | (simp; done) | (simp; omega)) | assumption) | apply Fz.agg | (apply Fz.ptrL; exact rfl; first | exact rfl | assumption) | apply Fz.fnL)); done)) | (apply q_callU; exact rfl; exact rfl; exact rfl; rotate_left; exact hE3 _; rotate_right; focus ((repeat' (first | exact FzL.nil | exact (by assumption : FzC _) _ | refine FzL.cons ?_ ?_ | exact Fz.of rfl | exact Fz.nil | exact Fz.emp | (apply Fz.fnC; assumption) | (apply Fz.sl2; exact rfl; exact (by first | omega | (simp; done) | (simp; omega)); first | exact rfl | exact dt_full (by first | omega | (simp; done) | (simp; omega)) | assumption) | apply Fz.agg | (apply Fz.ptrL; exact rfl; first | exact rfl | assumption) | apply Fz.fnL)); done))); (try simp only [put, rowsOf, plR, List.all_cons, selE, ovr, setH, del, cellsA, splice, isV, List.nil_append, List.cons_append, List.map_cons, List.map_nil, List.length_cons, List.length_nil, List.set_cons_zero, List.set_cons_succ, List.take_succ_cons, List.take_zero, List.take_nil, List.drop_succ_cons, List.drop_zero, List.drop_nil, List.append_nil, List.all_cons, List.all_nil, Bool.and_true, Bool.true_and, Bool.and_false, Bool.false_and, Nat.reduceAdd, Nat.zero_add, Nat.add_zero, Nat.reduceEqDiff, if_true, if_false, reduceIte]))
    | (show AW _ _ _ _ _ _ _ _; first | refine aw_region ?_ | (refine aw_seqk ?_; intro K hK) | (apply aw_cond_f; exact rfl; exact rfl) | refine aw_skip ?_)
    | refine thn_n ?_
    | (refine hK _ _ _ ?_; clear hK K))); all_goals (repeat (clear hK K)))
  refine q_markU (ni2 2097160 ds 3145738 ap) (ni2 2097160 (mkS 1 ds) 3145738 (mkS (1 + (totN ds : Int)) ap)) [(4194319, ⟨2, 1, true, cs.map inL⟩), (4194318, ⟨2, 1, true, frz.map inL⟩), (4194317, ⟨2, 1, true, list.map inL⟩), (2097159, ⟨2, 1, true, cs.map inL⟩), (0, ⟨47, 2, false, [[.dsl 1 (nbL ds), .dsl 1 (nbL ap)]]⟩)] rfl rfl rfl (hMp _)
    (ni2_in rfl (.cons (by omega) (.cons (by omega) (.cons (by omega) (.cons (by omega) (.cons (by omega) (.cons (by omega) (.cons (by omega) (.cons (by omega) (.cons (by omega) (.cons (by omega) (NstIn.left .here'))))))))))) rfl (.cons (by omega) (.cons (by omega) (.cons (by omega) (.cons (by omega) (.cons (by omega) (.cons (by omega) (.cons (by omega) (.cons (by omega) (.cons (by omega) (.cons (by omega) (.skip (by omega) .here')))))))))))) (fun i c hc => .inr ⟨?_, ?_⟩) ?_
  · have m1 := mkS_len ds 1
    have m2 := mkS_len ap (1 + (totN ds : Int))
    refine ni2_none ?_ (by omega)
    rcases List.mem_cons.1 (look_some_mem hc) with h | h
    · cases h; omega
    rcases List.mem_cons.1 h with h | h
    · cases h; omega
    rcases List.mem_cons.1 h with h | h
    · cases h; omega
    rcases List.mem_cons.1 h with h | h
    · cases h; omega
    rcases List.mem_cons.1 h with h | h
    · cases h; omega
    · cases h
  · exact canon0 (O := [(4194319, ⟨2, 1, true, cs.map inL⟩), (4194318, ⟨2, 1, true, frz.map inL⟩), (4194317, ⟨2, 1, true, list.map inL⟩), (2097159, ⟨2, 1, true, cs.map inL⟩), (0, ⟨47, 2, false, [[.dsl 1 (nbL ds), .dsl 1 (nbL ap)]]⟩)]) ⟨rfl, rfl, rfl, rfl, rfl, trivial⟩ i c hc
  ((repeat' (first
    | (show SQ _ _ _ _ _ _ _ _; first | apply sq_nil | (apply q_move; exact rfl; exact rfl) | (apply q_assign; exact rfl; exact rfl) | (apply q_pick_f; exact rfl; exact rfl; exact rfl; exact (by first | assumption | exact rfl)) | (apply q_not; exact rfl; exact rfl) | (apply q_neq; exact rfl; exact rfl; exact rfl) | (apply q_lss; exact rfl; exact rfl; exact rfl) | (apply q_g; exact rfl; exact rfl; exact rfl; exact (by assumption)))
    | (show SQ _ _ _ _ _ _ _ _; (first | (apply q_ldap; exact rfl; exact rfl; exact (ty rfl); exact rfl; exact rfl; exact (by first | rfl | assumption | ((try simp only [Nat.zero_add]); refine List.getElem?_set_self ?_; (try simp only [List.length_set]); assumption)); exact rfl) | (apply q_callU; exact rfl; exact rfl; exact rfl; rotate_left; exact hE1 _; rotate_right; focus ((repeat' (first | exact FzL.nil | exact (by assumption : FzC _) _ | refine FzL.cons ?_ ?_ | exact Fz.of rfl | exact Fz.nil | exact Fz.emp | (apply Fz.fnC; assumption) | (apply Fz.sl2; exact rfl; exact (by first | omega | (simp; done) | (simp; omega)); first | exact rfl | exact dt_full (by first | omega | (simp; done) | (simp; omega)) | assumption) | apply Fz.agg | (apply Fz.ptrL; exact rfl; first | exact rfl | assumption) | apply Fz.fnL)); done)) | (apply q_callU; exact rfl; exact rfl; exact rfl; rotate_left; exact hH _; rotate_right; focus ((repeat' (first | exact FzL.nil | exact (by assumption : FzC _) _ | refine FzL.cons ?_ ?_ | exact Fz.of rfl | exact Fz.nil | exact Fz.emp | (apply Fz.fnC; assumption) | (apply Fz.sl2; exact rfl; exact (by first | omega | (simp; done) | (simp; omega)); first | exact rfl | exact dt_full (by first | omega | (simp; done) | (simp; omega)) | assumption) | apply Fz.agg | (apply Fz.ptrL; exact rfl; first | exact rfl | assumption) | apply Fz.fnL)); done)) | (apply q_callC; exact rfl; exact rfl; exact rfl; exact hM2 _; (focus ((repeat (first | exact trivial | refine ⟨by first | exact rfl | assumption, ?_⟩)); done)); skip) | (apply q_callC; exact rfl; exact rfl; exact rfl; exact hM3 _; (focus ((repeat (first | exact trivial | refine ⟨by first | exact rfl | assumption, ?_⟩)); done)); skip) | (apply q_callC; exact rfl; exact rfl; exact rfl; exact hM4 _; (focus ((repeat (first | exact trivial | refine ⟨by first | exact rfl | assumption, ?_⟩)); done)); skip)); (try simp only [put, rowsOf, plR, List.all_cons, selE, ovr, setH, del, cellsA, splice, isV, List.nil_append, List.cons_append, List.map_cons, List.map_nil, List.length_cons, List.length_nil, List.set_cons_zero, List.set_cons_succ, List.take_succ_cons, List.take_zero, List.take_nil, List.drop_succ_cons, List.drop_zero, List.drop_nil, List.append_nil, List.all_cons, List.all_nil, Bool.and_true, Bool.true_and, Bool.and_false, Bool.false_and, Nat.reduceAdd, Nat.zero_add, Nat.add_zero, Nat.reduceEqDiff, if_true, if_false, reduceIte]))
    | (show AW _ _ _ _ _ _ _ _; first | refine aw_region ?_ | (refine aw_seqk ?_; intro K hK) | (apply aw_cond_f; exact rfl; exact rfl) | (apply aw_cond_f; exact rfl; exact (by assumption)) | refine aw_skip ?_)
    | refine thn_n ?_
    | (refine hK _ _ _ ?_; clear hK K))); all_goals (repeat (clear hK K)))
  refine q_callN (u := [(6291478, niB 6291478 ds), (7340056, niB 7340056 ap)]) rfl rfl rfl (FzL.cons (Fz.of rfl) FzL.nil) (hT _) ?_
  ((repeat' (first
    | (show SQ _ _ _ _ _ _ _ _; first | (apply q_move; exact rfl; exact rfl))
    | (show SQ _ _ _ _ _ _ _ _; (first | (apply q_callU; exact rfl; exact rfl; exact rfl; exact FzL.of rfl; exact hTl _) | (apply q_callU; exact rfl; exact rfl; exact rfl; exact FzL.of rfl; exact hTf _)); (try simp only [put, rowsOf, plR, List.all_cons, selE, ovr, setH, del, cellsA, splice, isV, List.nil_append, List.cons_append, List.map_cons, List.map_nil, List.length_cons, List.length_nil, List.set_cons_zero, List.set_cons_succ, List.take_succ_cons, List.take_zero, List.take_nil, List.drop_succ_cons, List.drop_zero, List.drop_nil, List.append_nil, List.all_cons, List.all_nil, Bool.and_true, Bool.true_and, Bool.and_false, Bool.false_and, Nat.reduceAdd, Nat.zero_add, Nat.add_zero, Nat.reduceEqDiff, if_true, if_false, reduceIte])))); all_goals (repeat (clear hK K)))
  refine q_callU rfl rfl rfl (FzL.cons (fz_pr rfl (.cons (by omega) (.cons (by omega) (.cons (by omega) (.cons (by omega) (.cons (by omega) (.cons (by omega) (.cons (by omega) (.cons (by omega) (.cons (by omega) (NstIn.left .here')))))))))) rfl (.cons (by omega) (.cons (by omega) (.cons (by omega) (.cons (by omega) (.cons (by omega) (.cons (by omega) (.cons (by omega) (.cons (by omega) (.cons (by omega) (.skip (by omega) .here')))))))))) rfl rfl) (FzL.cons (fz_in rfl rfl) (FzL.cons (fz_in rfl rfl) (FzL.cons (Fz.of rfl) FzL.nil)))) (hI _) ?_
  refine sq_sub (canon0 (O := [(8388636, ⟨2, 1, true, cs.map inL⟩), (4194319, ⟨2, 1, true, ((List.range cs.length).map (up 1)).map inL⟩), (2097159, ⟨2, 1, true, cs.map inL⟩)]) ⟨rfl, rfl, rfl, trivial⟩) ?_
  have hml2 : (((List.range cs.length).map (up 1)).map inL).length = cs.length := by simp
  ((repeat' (first
    | (show SQ _ _ _ _ _ _ _ _; first | apply sq_nil | (apply q_move; exact rfl; exact rfl) | (apply q_assign; exact rfl; exact rfl) | (apply q_pick_f; exact rfl; exact rfl; exact rfl; exact (by first | assumption | exact rfl)) | (apply q_not; exact rfl; exact rfl) | (apply q_ext; exact rfl; exact rfl; exact rfl) | (apply q_neq; exact rfl; exact rfl; exact rfl) | (apply q_lss; exact rfl; exact rfl; exact rfl) | (apply q_g; exact rfl; exact rfl; exact rfl; exact (by assumption)))
    | (show SQ _ _ _ _ _ _ _ _; (first | (apply q_callU; exact rfl; exact rfl; exact rfl; rotate_left; exact hE1 _; rotate_right; focus ((repeat' (first | exact FzL.nil | exact (by assumption : FzC _) _ | refine FzL.cons ?_ ?_ | exact Fz.of rfl | exact Fz.nil | exact Fz.emp | (apply Fz.fnC; assumption) | (apply Fz.sl2; exact rfl; exact (by first | omega | (simp; done) | (simp; omega)); first | exact rfl | exact dt_full (by first | omega | (simp; done) | (simp; omega)) | assumption) | apply Fz.agg | (apply Fz.ptrL; exact rfl; first | exact rfl | assumption) | apply Fz.fnL)); done)) | (apply q_callU; exact rfl; exact rfl; exact rfl; rotate_left; exact hH _; rotate_right; focus ((repeat' (first | exact FzL.nil | exact (by assumption : FzC _) _ | refine FzL.cons ?_ ?_ | exact Fz.of rfl | exact Fz.nil | exact Fz.emp | (apply Fz.fnC; assumption) | (apply Fz.sl2; exact rfl; exact (by first | omega | (simp; done) | (simp; omega)); first | exact rfl | exact dt_full (by first | omega | (simp; done) | (simp; omega)) | assumption) | apply Fz.agg | (apply Fz.ptrL; exact rfl; first | exact rfl | assumption) | apply Fz.fnL)); done))); (try simp only [put, rowsOf, plR, List.all_cons, selE, ovr, setH, del, cellsA, splice, isV, List.nil_append, List.cons_append, List.map_cons, List.map_nil, List.length_cons, List.length_nil, List.set_cons_zero, List.set_cons_succ, List.take_succ_cons, List.take_zero, List.take_nil, List.drop_succ_cons, List.drop_zero, List.drop_nil, List.append_nil, List.all_cons, List.all_nil, Bool.and_true, Bool.true_and, Bool.and_false, Bool.false_and, Nat.reduceAdd, Nat.zero_add, Nat.add_zero, Nat.reduceEqDiff, if_true, if_false, reduceIte]))
    | (show AW _ _ _ _ _ _ _ _; first | refine aw_region ?_ | (refine aw_seqk ?_; intro K hK) | (apply aw_cond_f; exact rfl; exact rfl) | (apply aw_cond_f; exact rfl; exact (by assumption)) | refine aw_ret ?_ | refine aw_skip ?_)
    | refine thn_n ?_
    | (refine hK _ _ _ ?_; clear hK K))); all_goals (repeat (clear hK K)))
  all_goals exact fin_r (fin_b rfl rfl)
theorem closeRep (v v1 v2 v3 : Value) (w : World) (h : Fr.IsProb w v) (h1 : Fr.IsInts w v1) (h2 : Fr.IsInts w v2) (h3 : Fr.IsInt w v3) : Calls Try.prog 6 #[v, v1, v2, v3] w fun r w' => r = .returned (.bool true) ∧ Below w.heap.size w w' := by
  obtain ⟨ds, ap, hv, hn, hl, hn2, hl2⟩ := h
  obtain ⟨list, hv1, hc⟩ := h1
  obtain ⟨frz, hv2, hf⟩ := h2
  obtain ⟨bu, rfl, _⟩ := h3
  exact RO.calls (k := 0) (lawRep_ro ds ap list frz bu hn hl hn2 hl2 hc hf 0) (K := fun k => k < w.heap.size) (fun _ h => h) (VRs.cons hv (VRs.cons hv1 (VRs.cons hv2 (VRs.cons (.v _ _) VRs.nil))))
end Go.Proofs.Yteknfaldpajlpaa.Nb
