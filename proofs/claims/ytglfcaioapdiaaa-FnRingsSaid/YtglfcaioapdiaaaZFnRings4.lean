/-
  What the law FnRings rests on, part 4.
-/
import Derived.Test.YtglfcaioapdiaaaZFnRings3
namespace Go.Proofs.Ytglfcaioapdiaaa.Bk
open Go
set_option linter.unusedSimpArgs false
set_option linter.unusedVariables false
theorem link_at {ls : List Ln} {x y o : Int} (h : EL ls x y o) : 0 ≤ ixG (linkP x y) ls := by
  have := ixG_any (linkP x y) ls
  have h2 : ls.any (linkP x y) = true := by
    obtain ⟨l, hl, hor, _⟩ := h
    refine List.any_eq_true.2 ⟨l, hl, ?_⟩
    unfold linkP
    rcases hor with ⟨a, b⟩ | ⟨a, b⟩ <;> simp [a, b]
  rw [h2] at this
  simpa using this
theorem Pt.goodR {n : Int} {ls : List Ln} {s : Int} (hL : LnsOk n ls) (hs : 0 ≤ s ∧ s < n) {p : List Int} {c t : Int} (h : Pt (EL ls) s p c t) : p ≠ [] ∧ p.getLast? = some t ∧ ∀ j, j < p.length → goodR n ls p j = true := by
  induction h with
  | one =>
    refine ⟨by simp, rfl, fun j hj => ?_⟩
    simp at hj
    subst hj
    simp [Bk.goodR, inB]; omega
  | @step p c x y o h he hy ih =>
    obtain ⟨h1, h2, h3⟩ := ih
    refine ⟨by simp, by simp, fun j hj => ?_⟩
    simp only [List.length_append, List.length_singleton] at hj
    have hp0 : 0 < p.length := List.length_pos_iff.2 h1
    by_cases hjl : j < p.length
    · have := h3 j hjl
      have e1 : (p ++ [y]).getD j 0 = p.getD j 0 := by simp [List.getD, List.getElem?_append_left hjl]
      have e2 : (p ++ [y]).take j = p.take j := List.take_append_of_le_length (by omega)
      have e3 : (p ++ [y]).getD (j - 1) 0 = p.getD (j - 1) 0 := by simp [List.getD, List.getElem?_append_left (show j - 1 < p.length by omega)]
      simp only [Bk.goodR, lkAt, e1, e2, e3] at this ⊢
      exact this
    · have hje : j = p.length := by omega
      subst hje
      have e1 : (p ++ [y]).getD p.length 0 = y := by simp [List.getD]
      have e2 : (p ++ [y]).take p.length = p := by simp
      have e3 : (p ++ [y]).getD (p.length - 1) 0 = x := by
        simp only [List.getD, List.getElem?_append_left (show p.length - 1 < p.length by omega)]
        rw [← List.getLast?_eq_getElem?, h2]; rfl
      have hrng := (EL.ok hL he).2.2
      have hl := link_at he
      simp only [Bk.goodR, lkAt, e1, e2, e3, Bool.and_eq_true, Bool.or_eq_true, decide_eq_true_eq]
      refine ⟨⟨by simp [inB]; omega, ?_⟩, .inr hl⟩
      simp only [Bool.not_eq_true', List.any_eq_false, beq_iff_eq]
      exact fun z hz e => hy (e ▸ hz)
theorem Pt.rtB {n : Int} {ls : List Ln} {s : Int} (hL : LnsOk n ls) (hs : 0 ≤ s ∧ s < n) {p : List Int} {c t : Int} (h : Pt (EL ls) s p c t) : rtB n ls p = true :=
  rtB_true (fun e => h.ne (List.length_eq_zero_iff.1 e)) (Pt.goodR hL hs h).2.2
theorem rtL_rtB {n : Int} {ls : List Ln} {frm to : Int} (hL : LnsOk n ls) (hn : n ≤ 12) (hf : 0 ≤ frm ∧ frm < n) (ht : 0 ≤ to ∧ to < n) (hh : fh (farR n ls to) frm = true) : rtB n ls (rtL n ls frm to) = true := by
  have hW := FW.of (to := to) hL hn ht
  have hb := hW.bd hh
  exact Pt.rtB hL hf (hW.way _ hh (by omega)).1
def offB (ix : List Int) (j : Nat) : Bool := ix.any fun y => y == (j : Int)
def restI (ls : List Ln) (ix : List Int) (i : Nat) : List Ln := ((List.range i).filter fun j => !offB ix j).map fun j => ls.getD j lnz
theorem restI_len (ls : List Ln) (ix : List Int) (i : Nat) : (restI ls ix i).length ≤ i := by
  have := List.length_filter_le (fun j => !offB ix j) (List.range i)
  simpa [restI] using this
theorem restI_yes {ls : List Ln} {ix : List Int} {i : Nat} (hi : i < ls.length) (h : offB ix i = false) : restI ls ix (i + 1) = restI ls ix i ++ [ls[i]] := by
  simp [restI, List.range_succ, List.filter_append, h, List.getD, hi]
theorem restI_no {ls : List Ln} {ix : List Int} {i : Nat} (h : offB ix i = true) : restI ls ix (i + 1) = restI ls ix i := by
  simp [restI, List.range_succ, List.filter_append, h]
def restL (ls : List Ln) (ix : List Int) : List Ln := restI ls ix ls.length
theorem restL_mem {ls : List Ln} {ix : List Int} {l : Ln} (h : l ∈ restL ls ix) : ∃ i, ∃ hi : i < ls.length, offB ix i = false ∧ ls[i] = l := by
  simp only [restL, restI, List.mem_map, List.mem_filter, List.mem_range, Bool.not_eq_true'] at h
  obtain ⟨i, ⟨hi, ho⟩, e⟩ := h
  exact ⟨i, hi, ho, by simpa [List.getD, hi] using e⟩
theorem restL_ok {n : Int} {ls : List Ln} {ix : List Int} (hL : LnsOk n ls) : LnsOk n (restL ls ix) := fun l hl => by
  obtain ⟨i, hi, _, rfl⟩ := restL_mem hl
  exact hL _ (List.getElem_mem hi)
end Go.Proofs.Ytglfcaioapdiaaa.Bk

-- Two routes: the program's walk.
namespace Go.Proofs.Ytglfcaioapdiaaa.Bk
open Go Go.RowKit Go.Proofs.Ytglfcaioapdiaaa.Aw
set_option linter.unusedSimpArgs false
set_option linter.unusedVariables false
attribute [local irreducible] AW SQ Step RO RC DE Thn InB
set_option maxHeartbeats 4000000 in
theorem twoRoutes_nil_ro (n : Int) (ls : List Ln) (a b : Int) (hN : 1 ≤ n ∧ n ≤ 12) (hn : ls.length ≤ 1048576) (hL : LnsOk n ls) (ha : 0 ≤ a ∧ a < n) (hb : 0 ≤ b ∧ b < n) (hh : fh (farR n ls b) a = false) (k : Nat) :
    RO Try.prog 54 [.agg (bkL n ls), .v (.int .i64 a), .v (.int .i64 b)] k (.tup [.v (.slice none 0 0), .v (.slice none 0 0)]) [] k := by
  have hR := route_nil_ro n ls a b hN hn hL ha hb hh
  unfold bkL at hR ⊢
  refine RO.ofp Try.func54 Try.ntmps54 rfl (goFn_of Try.func54 rfl (by kernel_rfl)) rfl rfl rfl ?_
  ((repeat' (first
    | (show SQ _ _ _ _ _ _ _ _; first | apply sq_nil | (apply q_move; exact rfl; exact rfl) | (apply q_assign; exact rfl; exact rfl) | (apply q_nil_ev; exact rfl; exact rfl; exact rfl; exact (ty rfl); exact rfl))
    | (show SQ _ _ _ _ _ _ _ _; (first | (apply q_ldap; exact rfl; exact rfl; exact (ty rfl); exact rfl; exact rfl; exact (by first | rfl | assumption | ((try simp only [Nat.zero_add]); refine List.getElem?_set_self ?_; (try simp only [List.length_set]); assumption)); exact rfl) | (apply q_box; exact rfl; exact rfl; exact rfl) | (apply q_callU; exact rfl; exact rfl; exact rfl; exact FzL.of rfl; exact hR _)); (try simp only [put, rowsOf, plR, List.all_cons, selE, ovr, setH, del, cellsA, splice, isV, List.nil_append, List.cons_append, List.map_cons, List.map_nil, List.length_cons, List.length_nil, List.set_cons_zero, List.set_cons_succ, List.take_succ_cons, List.take_zero, List.take_nil, List.drop_succ_cons, List.drop_zero, List.drop_nil, List.append_nil, List.all_cons, List.all_nil, Bool.and_true, Bool.true_and, Bool.and_false, Bool.false_and, Nat.reduceAdd, Nat.zero_add, Nat.add_zero, Nat.reduceEqDiff, if_true, if_false, reduceIte]))
    | (show AW _ _ _ _ _ _ _ _; first | refine aw_region ?_ | (refine aw_seqk ?_; intro K hK) | (apply aw_cond_t; exact rfl; exact rfl) | refine aw_ret ?_)
    | refine thn_n ?_
    | (refine hK _ _ _ ?_; clear hK K)
    | refine thn_r ?_)); all_goals (repeat (clear hK K)))
  all_goals refine fin_r (fin_p (.r2 _ _ _ _ (.tmp _ _ rfl) (.tmp _ _ rfl)) ?_ rfl rfl rfl)
  all_goals rfl
def twI (n : Int) (ls : List Ln) (a b : Int) : List Int := rtI ls (rtL n ls a b) (rtL n ls a b).length
def twR (n : Int) (ls : List Ln) (a b : Int) : List Ln := restL ls (twI n ls a b)
theorem rtI_in' {n : Int} {ls : List Ln} {rd : List Int} (h : rtB n ls rd = true) : ∀ x ∈ rtI ls rd rd.length, 0 ≤ x ∧ x < ls.length := by
  intro x hx
  obtain ⟨j, hj, rfl⟩ := List.mem_map.1 hx
  have hj := List.mem_range.1 hj
  have := (rtB_get h).2 (j + 1) (by omega)
  simp only [goodR, Bool.and_eq_true, Bool.or_eq_true, decide_eq_true_eq] at this
  refine ⟨by omega, (ixG_rng _ _).2⟩
set_option maxHeartbeats 4000000 in
theorem twoRoutes_none_ro (n : Int) (ls : List Ln) (a b : Int) (hN : 1 ≤ n ∧ n ≤ 12) (hn : ls.length ≤ 1048576) (hL : LnsOk n ls) (ha : 0 ≤ a ∧ a < n) (hb : 0 ≤ b ∧ b < n) (hh : fh (farR n ls b) a = true) (hh2 : fh (farR n (twR n ls a b) b) a = false) (k : Nat) :
    RO Try.prog 54 [.agg (bkL n ls), .v (.int .i64 a), .v (.int .i64 b)] k (.tup [.sl k 0 (rtN n ls a b), .v (.slice none 0 0)]) [(k, ⟨2, 1, true, (rtL n ls a b).map inL⟩)] (k + 1) := by
  have hR : ∀ k, RO Try.prog 50 [.agg (bkL n ls), .v (.int .i64 a), .v (.int .i64 b)] k (.sl k 0 (rtN n ls a b)) [(k, ⟨2, 1, true, (rtL n ls a b).map inL⟩)] (k + 1) := route_some_ro n ls a b hN hn hL ha hb hh
  have hlen := rtL_len n ls a b
  have hle := rtL_le hL hN.2 hb hh
  have hRt := rtL_rtB hL hN.2 ha hb hh
  have hLk := linksOf_ok_ro n ls (rtL n ls a b) hN hn (by omega) hRt
  have hix := rtI_in' hRt
  have hixl := rtI_len ls (rtL n ls a b) (rtL n ls a b).length
  have hrl := restI_len ls (twI n ls a b) ls.length
  have hrok := restL_ok (ix := twI n ls a b) hL
  have hR2 : ∀ k, RO Try.prog 50 [.agg (bkL n (twR n ls a b)), .v (.int .i64 a), .v (.int .i64 b)] k (.v (.slice none 0 0)) [] k := route_nil_ro n (twR n ls a b) a b hN (by unfold twR restL; omega) hrok ha hb hh2
  have h0 : 0 < rtN n ls a b := Nat.succ_pos _
  refine RO.ofm (.tup [.sl 0 0 (rtN n ls a b), .v (.slice none 0 0)]) ([(0, ⟨2, 1, true, (rtL n ls a b).map inL⟩)]) 1 Try.func54 Try.ntmps54 rfl (goFn_of Try.func54 rfl (by kernel_rfl)) rfl rfl (by simp [renA, renL]) (by simp [shH, renB]) rfl ?_
  have e : rtI ls (rtL n ls a b) (rtL n ls a b).length = twI n ls a b := rfl
  rw [e] at hLk hix hixl
  have e2 : twR n ls a b = restL ls (twI n ls a b) := rfl
  rw [e2] at hR2
  try rw [e2]
  generalize rtN n ls a b = L at *
  generalize rtL n ls a b = p at *
  generalize twI n ls a b = ix at *
  have hrl2 : (restL ls ix).length ≤ ls.length := hrl
  generalize hL2 : rtN n (restL ls ix) a b = L2 at *
  generalize hxs2 : rtL n (restL ls ix) a b = xs2 at *
  clear hrok e e2 hL2 hxs2
  unfold bkL at hR hLk hR2 ⊢
  ((repeat' (first
    | (show SQ _ _ _ _ _ _ _ _; first | apply sq_nil | (apply q_move; exact rfl; exact rfl) | (apply q_assign; exact rfl; exact rfl) | (apply q_fieldAddr; exact rfl; exact rfl; exact (ty rfl); exact rfl; exact rfl; exact rfl; exact rfl) | (apply q_ext; exact rfl; exact rfl; exact rfl) | (apply q_lend; exact rfl; exact rfl; exact (ty rfl); exact rfl) | (apply q_ld1p; exact rfl; exact rfl; exact (ty rfl); exact rfl; exact rfl; exact (by first | rfl | assumption | ((try simp only [Nat.zero_add]); refine List.getElem?_set_self ?_; (try simp only [List.length_set]); assumption)); exact rfl) | (apply q_build; exact rfl; exact (ty rfl); exact rfl; exact rfl; exact rfl) | (apply q_nil_el; exact rfl; exact rfl; exact rfl; exact (ty rfl); exact rfl; exact (by first | omega | (simp; done) | (simp; omega))))
    | (show SQ _ _ _ _ _ _ _ _; (first | (apply q_ldap; exact rfl; exact rfl; exact (ty rfl); exact rfl; exact rfl; exact (by first | rfl | assumption | ((try simp only [Nat.zero_add]); refine List.getElem?_set_self ?_; (try simp only [List.length_set]); assumption)); exact rfl) | (apply q_box; exact rfl; exact rfl; exact rfl) | (apply q_alloc; exact rfl; exact (ty rfl); exact rfl; exact rfl) | (apply q_store; exact rfl; exact rfl; exact (ty rfl); exact rfl; exact (by first | rfl | assumption | ((try simp only [Nat.zero_add]); refine List.getElem?_set_self ?_; (try simp only [List.length_set]); assumption)); exact rfl; exact rfl; exact rfl) | (apply q_callU; exact rfl; exact rfl; exact rfl; exact FzL.of rfl; exact hR _) | (apply q_callU; exact rfl; exact rfl; exact rfl; rotate_left; exact hLk _; rotate_right; focus ((repeat' (first | exact FzL.nil | exact (by assumption : FzC _) _ | refine FzL.cons ?_ ?_ | exact Fz.of rfl | exact Fz.nil | exact Fz.emp | (apply Fz.fnC; assumption) | (apply Fz.sl2; exact rfl; exact (by first | omega | (simp; done) | (simp; omega)); first | exact rfl | exact dt_full (by first | omega | (simp; done) | (simp; omega)) | assumption) | apply Fz.agg | (apply Fz.ptrL; exact rfl; first | exact rfl | assumption) | apply Fz.fnL)); done))); (try simp only [put, rowsOf, plR, List.all_cons, selE, ovr, setH, del, cellsA, splice, isV, List.nil_append, List.cons_append, List.map_cons, List.map_nil, List.length_cons, List.length_nil, List.set_cons_zero, List.set_cons_succ, List.take_succ_cons, List.take_zero, List.take_nil, List.drop_succ_cons, List.drop_zero, List.drop_nil, List.append_nil, List.all_cons, List.all_nil, Bool.and_true, Bool.true_and, Bool.and_false, Bool.false_and, Nat.reduceAdd, Nat.zero_add, Nat.add_zero, Nat.reduceEqDiff, if_true, if_false, reduceIte]))
    | (show AW _ _ _ _ _ _ _ _; first | refine aw_region ?_ | (refine aw_seqk ?_; intro K hK) | refine aw_block ?_ | (apply aw_cond_f; exact rfl; exact rfl) | refine aw_skip ?_)
    | refine thn_n ?_
    | (refine hK _ _ _ ?_; clear hK K))); all_goals (repeat (clear hK K)))
  refine aw_nilB 3 0 1 56 4 rfl rfl rfl rfl rfl ?_
  refine aw_loop (ρ := id) (ι := Nat) (fun i => ([(32, .v (.int .i64 i)), (31, .v (.int .i64 ls.length)), (30, .dsl 4 (ls.map lnL)), (11, .ptr 3 0 0), (9, .sl 2 0 ix.length), (8, .sl 1 0 L), (2, .v (.int .i64 b)), (1, .v (.int .i64 a))],
      [(1, ⟨2, 1, true, p.map inL⟩), (2, ⟨2, 1, true, ix.map inL⟩), (3, ⟨31, 2, false, [[.v (.int .i64 n), .sl 4 0 (restI ls ix i).length]]⟩), (4, ⟨56, 4, true, (restI ls ix i).map lnL⟩)], 5))
    (fun i => i ≤ ls.length) (fun i => ls.length - i) 0 (Nat.zero_le _) ⟨by (repeat (refine ⟨by first | exact lk_i rfl rfl | exact lk_i rfl (by (try dsimp only); first | rfl | omega | (rw [IntWalk.i64_in _ (by omega)]; first | rfl | omega | (push_cast; omega)) | (simp; done) | (simp; omega)) | exact lk_d rfl rfl | exact lk_r rfl rfl rfl | exact lk_s rfl rfl rfl rfl, ?_⟩)); exact trivial, by (repeat (refine ⟨by first | exact ⟨rfl, rfl, rfl⟩, ?_⟩)); exact trivial, by rfl, by exact pin_0⟩ ?_
  intro i hi
  have hml : ((restI ls ix i).map lnL).length = (restI ls ix i).length := List.length_map _
  have hri := restI_len ls ix i
  by_cases c2 : i < ls.length
  · have b2 : decide ((i : Int) < (ls.length : Int)) = true := by simpa using c2
    have hrow : (ls.map lnL)[((i : Int)).toNat]? = some (lnL ls[i]) := by simp [c2]
    rw [lnL_eq] at hrow
    have hw1 : IntKind.i64.wrap ((i : Int) + 1) = ((i + 1 : Nat) : Int) := by rw [IntWalk.i64_in _ (by omega)]; omega
    have hC := slContains_ro ix (ix.map inL) (i : Int) rfl (by omega)
    cases ho : offB ix i with
    | true =>
      have b3 : (!(ix.any fun y => y == (i : Int))) = false := by unfold offB at ho; rw [ho]; rfl
      have e1 := restI_no (ls := ls) ho
      ((repeat' (first
    | (show SQ _ _ _ _ _ _ _ _; first | apply sq_nil | (apply q_move; exact rfl; exact rfl) | (apply q_assign; exact rfl; exact rfl) | (apply q_not; exact rfl; exact rfl) | (apply q_add; exact rfl; exact rfl; exact rfl) | (apply q_lss; exact rfl; exact rfl; exact rfl) | (apply q_ixd; exact rfl; exact rfl; exact rfl; exact (ty rfl); exact rfl; exact (by first | omega | (simp; done) | (simp; omega)); exact (by first | omega | (simp; done) | (simp; omega)); exact (by first | rfl | assumption)))
    | (show SQ _ _ _ _ _ _ _ _; (first | (apply q_ldad; exact rfl; exact rfl; exact (ty rfl); exact rfl; exact rfl) | (apply q_alloc; exact rfl; exact (ty rfl); exact rfl; exact rfl) | (apply q_store; exact rfl; exact rfl; exact (ty rfl); exact rfl; exact (by first | rfl | assumption | ((try simp only [Nat.zero_add]); refine List.getElem?_set_self ?_; (try simp only [List.length_set]); assumption)); exact rfl; exact rfl; exact rfl) | (apply q_callU; exact rfl; exact rfl; exact rfl; rotate_left; exact hC _; rotate_right; focus ((repeat' (first | exact FzL.nil | exact (by assumption : FzC _) _ | refine FzL.cons ?_ ?_ | exact Fz.of rfl | exact Fz.nil | exact Fz.emp | (apply Fz.fnC; assumption) | (apply Fz.sl2; exact rfl; exact (by first | omega | (simp; done) | (simp; omega)); first | exact rfl | exact dt_full (by first | omega | (simp; done) | (simp; omega)) | assumption) | apply Fz.agg | (apply Fz.ptrL; exact rfl; first | exact rfl | assumption) | apply Fz.fnL)); done))); (try simp only [put, rowsOf, plR, List.all_cons, selE, ovr, setH, del, cellsA, splice, isV, List.nil_append, List.cons_append, List.map_cons, List.map_nil, List.length_cons, List.length_nil, List.set_cons_zero, List.set_cons_succ, List.take_succ_cons, List.take_zero, List.take_nil, List.drop_succ_cons, List.drop_zero, List.drop_nil, List.append_nil, List.all_cons, List.all_nil, Bool.and_true, Bool.true_and, Bool.and_false, Bool.false_and, Nat.reduceAdd, Nat.zero_add, Nat.add_zero, Nat.reduceEqDiff, if_true, if_false, reduceIte]))
    | (show AW _ _ _ _ _ _ _ _; first | refine aw_region ?_ | (refine aw_seqk ?_; intro K hK) | refine aw_block ?_ | (apply aw_cond_t; exact rfl; exact (by assumption)) | (apply aw_cond_f; exact rfl; exact (by assumption)) | refine aw_skip ?_)
    | refine thn_n ?_
    | (refine hK _ _ _ ?_; clear hK K)
    | refine inb_n ?_)); all_goals (repeat (clear hK K)))
      all_goals (refine ⟨i + 1, id, c2, by omega, ?_⟩; (try dsimp only); rw [e1, ← hw1]; exact ⟨by (repeat (refine ⟨by first | exact lk_i rfl rfl | exact lk_d rfl rfl | exact lk_r rfl rfl rfl | exact lk_s rfl rfl rfl rfl, ?_⟩)); exact trivial, by (repeat (refine ⟨by first | exact ⟨rfl, rfl, rfl⟩, ?_⟩)); exact trivial, by rfl, by exact pin_0⟩)
    | false =>
      have b3 : (!(ix.any fun y => y == (i : Int))) = true := by unfold offB at ho; rw [ho]; rfl
      have e1 := restI_yes c2 ho
      ((repeat' (first
    | (show SQ _ _ _ _ _ _ _ _; first | apply sq_nil | (apply q_move; exact rfl; exact rfl) | (apply q_assign; exact rfl; exact rfl) | (apply q_fieldAddr; exact rfl; exact rfl; exact (ty rfl); exact rfl; exact rfl; exact rfl; exact rfl) | (apply q_not; exact rfl; exact rfl) | (apply q_add; exact rfl; exact rfl; exact rfl) | (apply q_lss; exact rfl; exact rfl; exact rfl) | (apply q_ixd; exact rfl; exact rfl; exact rfl; exact (ty rfl); exact rfl; exact (by first | omega | (simp; done) | (simp; omega)); exact (by first | omega | (simp; done) | (simp; omega)); exact (by first | rfl | assumption)) | (apply q_ld1p; exact rfl; exact rfl; exact (ty rfl); exact rfl; exact rfl; exact (by first | rfl | assumption | ((try simp only [Nat.zero_add]); refine List.getElem?_set_self ?_; (try simp only [List.length_set]); assumption)); exact rfl))
    | (show SQ _ _ _ _ _ _ _ _; (first | (apply q_ldad; exact rfl; exact rfl; exact (ty rfl); exact rfl; exact rfl) | (apply q_ldap; exact rfl; exact rfl; exact (ty rfl); exact rfl; exact rfl; exact (by first | rfl | assumption | ((try simp only [Nat.zero_add]); refine List.getElem?_set_self ?_; (try simp only [List.length_set]); assumption)); exact rfl) | (apply q_alloc; exact rfl; exact (ty rfl); exact rfl; exact rfl) | (apply q_store; exact rfl; exact rfl; exact (ty rfl); exact rfl; exact (by first | rfl | assumption | ((try simp only [Nat.zero_add]); refine List.getElem?_set_self ?_; (try simp only [List.length_set]); assumption)); exact rfl; exact rfl; exact rfl) | (apply q_buildn; exact rfl; exact (ty rfl); exact rfl; exact rfl; exact rfl; exact rfl; exact rfl; exact rfl; exact rfl) | (apply q_apo_s; exact rfl; exact rfl; exact rfl; exact (ty rfl); exact rfl; exact rfl; exact (by first | omega | (simp; done) | (simp; omega)); exact (by first | exact List.take_of_length_le (by first | omega | (simp; done) | (simp; omega)) | rfl); exact (ty rfl); exact rfl; exact rfl; exact (by first | omega | (simp; done) | (simp; omega)); exact (by first | exact dt_full (by first | omega | (simp; done) | (simp; omega)) | assumption | rfl); exact rfl; exact (by first | omega | (simp; done) | (simp; omega)); exact (by first | omega | (simp; done) | (simp; omega)); exact (by first | assumption | exact rfl)) | (apply q_callU; exact rfl; exact rfl; exact rfl; rotate_left; exact hC _; rotate_right; focus ((repeat' (first | exact FzL.nil | exact (by assumption : FzC _) _ | refine FzL.cons ?_ ?_ | exact Fz.of rfl | exact Fz.nil | exact Fz.emp | (apply Fz.fnC; assumption) | (apply Fz.sl2; exact rfl; exact (by first | omega | (simp; done) | (simp; omega)); first | exact rfl | exact dt_full (by first | omega | (simp; done) | (simp; omega)) | assumption) | apply Fz.agg | (apply Fz.ptrL; exact rfl; first | exact rfl | assumption) | apply Fz.fnL)); done))); (try simp only [put, rowsOf, plR, List.all_cons, selE, ovr, setH, del, cellsA, splice, isV, List.nil_append, List.cons_append, List.map_cons, List.map_nil, List.length_cons, List.length_nil, List.set_cons_zero, List.set_cons_succ, List.take_succ_cons, List.take_zero, List.take_nil, List.drop_succ_cons, List.drop_zero, List.drop_nil, List.append_nil, List.all_cons, List.all_nil, Bool.and_true, Bool.true_and, Bool.and_false, Bool.false_and, Nat.reduceAdd, Nat.zero_add, Nat.add_zero, Nat.reduceEqDiff, if_true, if_false, reduceIte]))
    | (show AW _ _ _ _ _ _ _ _; first | refine aw_region ?_ | (refine aw_seqk ?_; intro K hK) | refine aw_block ?_ | (apply aw_cond_t; exact rfl; exact (by assumption)) | refine aw_skip ?_)
    | refine thn_n ?_
    | (refine hK _ _ _ ?_; clear hK K)
    | refine inb_n ?_)); all_goals (repeat (clear hK K)))
      all_goals (refine ⟨i + 1, fun j => [0, 1, 2, 3, 7].getD j 0, c2, by omega, ?_⟩; (try dsimp only); rw [e1, List.map_append, List.length_append, ← hw1]; exact ⟨by (repeat (refine ⟨by first | exact lk_i rfl rfl | exact lk_d rfl rfl | exact lk_r rfl rfl rfl | exact lk_s rfl rfl rfl rfl, ?_⟩)); exact trivial, by (repeat (refine ⟨by first | exact ⟨rfl, rfl, rfl⟩, ?_⟩)); exact trivial, by rfl, by exact pin_0⟩)
  · have b2 : decide ((i : Int) < (ls.length : Int)) = false := by simpa using c2
    obtain rfl : i = ls.length := by omega
    have e3 : restI ls ix ls.length = restL ls ix := rfl
    rw [e3] at hml ⊢
    ((repeat' (first
    | (show SQ _ _ _ _ _ _ _ _; first | apply sq_nil | (apply q_move; exact rfl; exact rfl) | (apply q_assign; exact rfl; exact rfl) | (apply q_lss; exact rfl; exact rfl; exact rfl))
    | (show SQ _ _ _ _ _ _ _ _; (first | (apply q_ldap; exact rfl; exact rfl; exact (ty rfl); exact rfl; exact rfl; exact (by first | rfl | assumption | ((try simp only [Nat.zero_add]); refine List.getElem?_set_self ?_; (try simp only [List.length_set]); assumption)); exact rfl) | (apply q_callU; exact rfl; exact rfl; exact rfl; rotate_left; exact hR2 _; rotate_right; focus ((repeat' (first | exact FzL.nil | exact (by assumption : FzC _) _ | refine FzL.cons ?_ ?_ | exact Fz.of rfl | exact Fz.nil | exact Fz.emp | (apply Fz.fnC; assumption) | (apply Fz.sl2; exact rfl; exact (by first | omega | (simp; done) | (simp; omega)); first | exact rfl | exact dt_full (by first | omega | (simp; done) | (simp; omega)) | assumption) | apply Fz.agg | (apply Fz.ptrL; exact rfl; first | exact rfl | assumption) | apply Fz.fnL)); done))); (try simp only [put, rowsOf, plR, List.all_cons, selE, ovr, setH, del, cellsA, splice, isV, List.nil_append, List.cons_append, List.map_cons, List.map_nil, List.length_cons, List.length_nil, List.set_cons_zero, List.set_cons_succ, List.take_succ_cons, List.take_zero, List.take_nil, List.drop_succ_cons, List.drop_zero, List.drop_nil, List.append_nil, List.all_cons, List.all_nil, Bool.and_true, Bool.true_and, Bool.and_false, Bool.false_and, Nat.reduceAdd, Nat.zero_add, Nat.add_zero, Nat.reduceEqDiff, if_true, if_false, reduceIte]))
    | (show AW _ _ _ _ _ _ _ _; first | refine aw_region ?_ | (refine aw_seqk ?_; intro K hK) | (apply aw_cond_f; exact rfl; exact (by assumption)) | refine aw_ret ?_ | refine aw_exit ?_)
    | refine thn_n ?_
    | (refine hK _ _ _ ?_; clear hK K)
    | refine thn_e ?_
    | refine inb_same ?_
    | (clear hK K; refine hK _ _ _ ?_; clear hK K))); all_goals (repeat (clear hK K)))
    all_goals first | exact fin_r (fin_m2 rfl rfl rfl _ _ rfl rfl rfl) | exact fin_r (fin_mm rfl rfl rfl rfl rfl rfl rfl)
set_option maxHeartbeats 4000000 in
theorem twoRoutes_both_ro (n : Int) (ls : List Ln) (a b : Int) (hN : 1 ≤ n ∧ n ≤ 12) (hn : ls.length ≤ 1048576) (hL : LnsOk n ls) (ha : 0 ≤ a ∧ a < n) (hb : 0 ≤ b ∧ b < n) (hh : fh (farR n ls b) a = true) (hh2 : fh (farR n (twR n ls a b) b) a = true) (k : Nat) :
    RO Try.prog 54 [.agg (bkL n ls), .v (.int .i64 a), .v (.int .i64 b)] k (.tup [.sl k 0 (rtN n ls a b), .sl (1 + k) 0 (rtN n (twR n ls a b) a b)]) [(k, ⟨2, 1, true, (rtL n ls a b).map inL⟩), (1 + k, ⟨2, 1, true, (rtL n (twR n ls a b) a b).map inL⟩)] (k + 2) := by
  have hR : ∀ k, RO Try.prog 50 [.agg (bkL n ls), .v (.int .i64 a), .v (.int .i64 b)] k (.sl k 0 (rtN n ls a b)) [(k, ⟨2, 1, true, (rtL n ls a b).map inL⟩)] (k + 1) := route_some_ro n ls a b hN hn hL ha hb hh
  have hlen := rtL_len n ls a b
  have hle := rtL_le hL hN.2 hb hh
  have hRt := rtL_rtB hL hN.2 ha hb hh
  have hLk := linksOf_ok_ro n ls (rtL n ls a b) hN hn (by omega) hRt
  have hix := rtI_in' hRt
  have hixl := rtI_len ls (rtL n ls a b) (rtL n ls a b).length
  have hrl := restI_len ls (twI n ls a b) ls.length
  have hrok := restL_ok (ix := twI n ls a b) hL
  have hR2 : ∀ k, RO Try.prog 50 [.agg (bkL n (twR n ls a b)), .v (.int .i64 a), .v (.int .i64 b)] k (.sl k 0 (rtN n (twR n ls a b) a b)) [(k, ⟨2, 1, true, (rtL n (twR n ls a b) a b).map inL⟩)] (k + 1) := route_some_ro n (twR n ls a b) a b hN (by unfold twR restL; omega) hrok ha hb hh2
  have h0 : 0 < rtN n ls a b := Nat.succ_pos _
  refine RO.ofm (.tup [.sl 0 0 (rtN n ls a b), .sl 1 0 (rtN n (twR n ls a b) a b)]) ([(0, ⟨2, 1, true, (rtL n ls a b).map inL⟩), (1, ⟨2, 1, true, (rtL n (twR n ls a b) a b).map inL⟩)]) 2 Try.func54 Try.ntmps54 rfl (goFn_of Try.func54 rfl (by kernel_rfl)) rfl rfl (by simp [renA, renL]) (by simp [shH, renB]) rfl ?_
  have e : rtI ls (rtL n ls a b) (rtL n ls a b).length = twI n ls a b := rfl
  rw [e] at hLk hix hixl
  have e2 : twR n ls a b = restL ls (twI n ls a b) := rfl
  rw [e2] at hR2
  try rw [e2]
  generalize rtN n ls a b = L at *
  generalize rtL n ls a b = p at *
  generalize twI n ls a b = ix at *
  have hrl2 : (restL ls ix).length ≤ ls.length := hrl
  generalize hL2 : rtN n (restL ls ix) a b = L2 at *
  generalize hxs2 : rtL n (restL ls ix) a b = xs2 at *
  clear hrok e e2 hL2 hxs2
  unfold bkL at hR hLk hR2 ⊢
  ((repeat' (first
    | (show SQ _ _ _ _ _ _ _ _; first | apply sq_nil | (apply q_move; exact rfl; exact rfl) | (apply q_assign; exact rfl; exact rfl) | (apply q_fieldAddr; exact rfl; exact rfl; exact (ty rfl); exact rfl; exact rfl; exact rfl; exact rfl) | (apply q_ext; exact rfl; exact rfl; exact rfl) | (apply q_lend; exact rfl; exact rfl; exact (ty rfl); exact rfl) | (apply q_ld1p; exact rfl; exact rfl; exact (ty rfl); exact rfl; exact rfl; exact (by first | rfl | assumption | ((try simp only [Nat.zero_add]); refine List.getElem?_set_self ?_; (try simp only [List.length_set]); assumption)); exact rfl) | (apply q_build; exact rfl; exact (ty rfl); exact rfl; exact rfl; exact rfl) | (apply q_nil_el; exact rfl; exact rfl; exact rfl; exact (ty rfl); exact rfl; exact (by first | omega | (simp; done) | (simp; omega))))
    | (show SQ _ _ _ _ _ _ _ _; (first | (apply q_ldap; exact rfl; exact rfl; exact (ty rfl); exact rfl; exact rfl; exact (by first | rfl | assumption | ((try simp only [Nat.zero_add]); refine List.getElem?_set_self ?_; (try simp only [List.length_set]); assumption)); exact rfl) | (apply q_box; exact rfl; exact rfl; exact rfl) | (apply q_alloc; exact rfl; exact (ty rfl); exact rfl; exact rfl) | (apply q_store; exact rfl; exact rfl; exact (ty rfl); exact rfl; exact (by first | rfl | assumption | ((try simp only [Nat.zero_add]); refine List.getElem?_set_self ?_; (try simp only [List.length_set]); assumption)); exact rfl; exact rfl; exact rfl) | (apply q_callU; exact rfl; exact rfl; exact rfl; exact FzL.of rfl; exact hR _) | (apply q_callU; exact rfl; exact rfl; exact rfl; rotate_left; exact hLk _; rotate_right; focus ((repeat' (first | exact FzL.nil | exact (by assumption : FzC _) _ | refine FzL.cons ?_ ?_ | exact Fz.of rfl | exact Fz.nil | exact Fz.emp | (apply Fz.fnC; assumption) | (apply Fz.sl2; exact rfl; exact (by first | omega | (simp; done) | (simp; omega)); first | exact rfl | exact dt_full (by first | omega | (simp; done) | (simp; omega)) | assumption) | apply Fz.agg | (apply Fz.ptrL; exact rfl; first | exact rfl | assumption) | apply Fz.fnL)); done))); (try simp only [put, rowsOf, plR, List.all_cons, selE, ovr, setH, del, cellsA, splice, isV, List.nil_append, List.cons_append, List.map_cons, List.map_nil, List.length_cons, List.length_nil, List.set_cons_zero, List.set_cons_succ, List.take_succ_cons, List.take_zero, List.take_nil, List.drop_succ_cons, List.drop_zero, List.drop_nil, List.append_nil, List.all_cons, List.all_nil, Bool.and_true, Bool.true_and, Bool.and_false, Bool.false_and, Nat.reduceAdd, Nat.zero_add, Nat.add_zero, Nat.reduceEqDiff, if_true, if_false, reduceIte]))
    | (show AW _ _ _ _ _ _ _ _; first | refine aw_region ?_ | (refine aw_seqk ?_; intro K hK) | refine aw_block ?_ | (apply aw_cond_f; exact rfl; exact rfl) | refine aw_skip ?_)
    | refine thn_n ?_
    | (refine hK _ _ _ ?_; clear hK K))); all_goals (repeat (clear hK K)))
  refine aw_nilB 3 0 1 56 4 rfl rfl rfl rfl rfl ?_
  refine aw_loop (ρ := id) (ι := Nat) (fun i => ([(32, .v (.int .i64 i)), (31, .v (.int .i64 ls.length)), (30, .dsl 4 (ls.map lnL)), (11, .ptr 3 0 0), (9, .sl 2 0 ix.length), (8, .sl 1 0 L), (2, .v (.int .i64 b)), (1, .v (.int .i64 a))],
      [(1, ⟨2, 1, true, p.map inL⟩), (2, ⟨2, 1, true, ix.map inL⟩), (3, ⟨31, 2, false, [[.v (.int .i64 n), .sl 4 0 (restI ls ix i).length]]⟩), (4, ⟨56, 4, true, (restI ls ix i).map lnL⟩)], 5))
    (fun i => i ≤ ls.length) (fun i => ls.length - i) 0 (Nat.zero_le _) ⟨by (repeat (refine ⟨by first | exact lk_i rfl rfl | exact lk_i rfl (by (try dsimp only); first | rfl | omega | (rw [IntWalk.i64_in _ (by omega)]; first | rfl | omega | (push_cast; omega)) | (simp; done) | (simp; omega)) | exact lk_d rfl rfl | exact lk_r rfl rfl rfl | exact lk_s rfl rfl rfl rfl, ?_⟩)); exact trivial, by (repeat (refine ⟨by first | exact ⟨rfl, rfl, rfl⟩, ?_⟩)); exact trivial, by rfl, by exact pin_0⟩ ?_
  intro i hi
  have hml : ((restI ls ix i).map lnL).length = (restI ls ix i).length := List.length_map _
  have hri := restI_len ls ix i
  by_cases c2 : i < ls.length
  · have b2 : decide ((i : Int) < (ls.length : Int)) = true := by simpa using c2
    have hrow : (ls.map lnL)[((i : Int)).toNat]? = some (lnL ls[i]) := by simp [c2]
    rw [lnL_eq] at hrow
    have hw1 : IntKind.i64.wrap ((i : Int) + 1) = ((i + 1 : Nat) : Int) := by rw [IntWalk.i64_in _ (by omega)]; omega
    have hC := slContains_ro ix (ix.map inL) (i : Int) rfl (by omega)
    cases ho : offB ix i with
    | true =>
      have b3 : (!(ix.any fun y => y == (i : Int))) = false := by unfold offB at ho; rw [ho]; rfl
      have e1 := restI_no (ls := ls) ho
      ((repeat' (first
    | (show SQ _ _ _ _ _ _ _ _; first | apply sq_nil | (apply q_move; exact rfl; exact rfl) | (apply q_assign; exact rfl; exact rfl) | (apply q_not; exact rfl; exact rfl) | (apply q_add; exact rfl; exact rfl; exact rfl) | (apply q_lss; exact rfl; exact rfl; exact rfl) | (apply q_ixd; exact rfl; exact rfl; exact rfl; exact (ty rfl); exact rfl; exact (by first | omega | (simp; done) | (simp; omega)); exact (by first | omega | (simp; done) | (simp; omega)); exact (by first | rfl | assumption)))
    | (show SQ _ _ _ _ _ _ _ _; (first | (apply q_ldad; exact rfl; exact rfl; exact (ty rfl); exact rfl; exact rfl) | (apply q_alloc; exact rfl; exact (ty rfl); exact rfl; exact rfl) | (apply q_store; exact rfl; exact rfl; exact (ty rfl); exact rfl; exact (by first | rfl | assumption | ((try simp only [Nat.zero_add]); refine List.getElem?_set_self ?_; (try simp only [List.length_set]); assumption)); exact rfl; exact rfl; exact rfl) | (apply q_callU; exact rfl; exact rfl; exact rfl; rotate_left; exact hC _; rotate_right; focus ((repeat' (first | exact FzL.nil | exact (by assumption : FzC _) _ | refine FzL.cons ?_ ?_ | exact Fz.of rfl | exact Fz.nil | exact Fz.emp | (apply Fz.fnC; assumption) | (apply Fz.sl2; exact rfl; exact (by first | omega | (simp; done) | (simp; omega)); first | exact rfl | exact dt_full (by first | omega | (simp; done) | (simp; omega)) | assumption) | apply Fz.agg | (apply Fz.ptrL; exact rfl; first | exact rfl | assumption) | apply Fz.fnL)); done))); (try simp only [put, rowsOf, plR, List.all_cons, selE, ovr, setH, del, cellsA, splice, isV, List.nil_append, List.cons_append, List.map_cons, List.map_nil, List.length_cons, List.length_nil, List.set_cons_zero, List.set_cons_succ, List.take_succ_cons, List.take_zero, List.take_nil, List.drop_succ_cons, List.drop_zero, List.drop_nil, List.append_nil, List.all_cons, List.all_nil, Bool.and_true, Bool.true_and, Bool.and_false, Bool.false_and, Nat.reduceAdd, Nat.zero_add, Nat.add_zero, Nat.reduceEqDiff, if_true, if_false, reduceIte]))
    | (show AW _ _ _ _ _ _ _ _; first | refine aw_region ?_ | (refine aw_seqk ?_; intro K hK) | refine aw_block ?_ | (apply aw_cond_t; exact rfl; exact (by assumption)) | (apply aw_cond_f; exact rfl; exact (by assumption)) | refine aw_skip ?_)
    | refine thn_n ?_
    | (refine hK _ _ _ ?_; clear hK K)
    | refine inb_n ?_)); all_goals (repeat (clear hK K)))
      all_goals (refine ⟨i + 1, id, c2, by omega, ?_⟩; (try dsimp only); rw [e1, ← hw1]; exact ⟨by (repeat (refine ⟨by first | exact lk_i rfl rfl | exact lk_d rfl rfl | exact lk_r rfl rfl rfl | exact lk_s rfl rfl rfl rfl, ?_⟩)); exact trivial, by (repeat (refine ⟨by first | exact ⟨rfl, rfl, rfl⟩, ?_⟩)); exact trivial, by rfl, by exact pin_0⟩)
    | false =>
      have b3 : (!(ix.any fun y => y == (i : Int))) = true := by unfold offB at ho; rw [ho]; rfl
      have e1 := restI_yes c2 ho
      ((repeat' (first
    | (show SQ _ _ _ _ _ _ _ _; first | apply sq_nil | (apply q_move; exact rfl; exact rfl) | (apply q_assign; exact rfl; exact rfl) | (apply q_fieldAddr; exact rfl; exact rfl; exact (ty rfl); exact rfl; exact rfl; exact rfl; exact rfl) | (apply q_not; exact rfl; exact rfl) | (apply q_add; exact rfl; exact rfl; exact rfl) | (apply q_lss; exact rfl; exact rfl; exact rfl) | (apply q_ixd; exact rfl; exact rfl; exact rfl; exact (ty rfl); exact rfl; exact (by first | omega | (simp; done) | (simp; omega)); exact (by first | omega | (simp; done) | (simp; omega)); exact (by first | rfl | assumption)) | (apply q_ld1p; exact rfl; exact rfl; exact (ty rfl); exact rfl; exact rfl; exact (by first | rfl | assumption | ((try simp only [Nat.zero_add]); refine List.getElem?_set_self ?_; (try simp only [List.length_set]); assumption)); exact rfl))
    | (show SQ _ _ _ _ _ _ _ _; (first | (apply q_ldad; exact rfl; exact rfl; exact (ty rfl); exact rfl; exact rfl) | (apply q_ldap; exact rfl; exact rfl; exact (ty rfl); exact rfl; exact rfl; exact (by first | rfl | assumption | ((try simp only [Nat.zero_add]); refine List.getElem?_set_self ?_; (try simp only [List.length_set]); assumption)); exact rfl) | (apply q_alloc; exact rfl; exact (ty rfl); exact rfl; exact rfl) | (apply q_store; exact rfl; exact rfl; exact (ty rfl); exact rfl; exact (by first | rfl | assumption | ((try simp only [Nat.zero_add]); refine List.getElem?_set_self ?_; (try simp only [List.length_set]); assumption)); exact rfl; exact rfl; exact rfl) | (apply q_buildn; exact rfl; exact (ty rfl); exact rfl; exact rfl; exact rfl; exact rfl; exact rfl; exact rfl; exact rfl) | (apply q_apo_s; exact rfl; exact rfl; exact rfl; exact (ty rfl); exact rfl; exact rfl; exact (by first | omega | (simp; done) | (simp; omega)); exact (by first | exact List.take_of_length_le (by first | omega | (simp; done) | (simp; omega)) | rfl); exact (ty rfl); exact rfl; exact rfl; exact (by first | omega | (simp; done) | (simp; omega)); exact (by first | exact dt_full (by first | omega | (simp; done) | (simp; omega)) | assumption | rfl); exact rfl; exact (by first | omega | (simp; done) | (simp; omega)); exact (by first | omega | (simp; done) | (simp; omega)); exact (by first | assumption | exact rfl)) | (apply q_callU; exact rfl; exact rfl; exact rfl; rotate_left; exact hC _; rotate_right; focus ((repeat' (first | exact FzL.nil | exact (by assumption : FzC _) _ | refine FzL.cons ?_ ?_ | exact Fz.of rfl | exact Fz.nil | exact Fz.emp | (apply Fz.fnC; assumption) | (apply Fz.sl2; exact rfl; exact (by first | omega | (simp; done) | (simp; omega)); first | exact rfl | exact dt_full (by first | omega | (simp; done) | (simp; omega)) | assumption) | apply Fz.agg | (apply Fz.ptrL; exact rfl; first | exact rfl | assumption) | apply Fz.fnL)); done))); (try simp only [put, rowsOf, plR, List.all_cons, selE, ovr, setH, del, cellsA, splice, isV, List.nil_append, List.cons_append, List.map_cons, List.map_nil, List.length_cons, List.length_nil, List.set_cons_zero, List.set_cons_succ, List.take_succ_cons, List.take_zero, List.take_nil, List.drop_succ_cons, List.drop_zero, List.drop_nil, List.append_nil, List.all_cons, List.all_nil, Bool.and_true, Bool.true_and, Bool.and_false, Bool.false_and, Nat.reduceAdd, Nat.zero_add, Nat.add_zero, Nat.reduceEqDiff, if_true, if_false, reduceIte]))
    | (show AW _ _ _ _ _ _ _ _; first | refine aw_region ?_ | (refine aw_seqk ?_; intro K hK) | refine aw_block ?_ | (apply aw_cond_t; exact rfl; exact (by assumption)) | refine aw_skip ?_)
    | refine thn_n ?_
    | (refine hK _ _ _ ?_; clear hK K)
    | refine inb_n ?_)); all_goals (repeat (clear hK K)))
      all_goals (refine ⟨i + 1, fun j => [0, 1, 2, 3, 7].getD j 0, c2, by omega, ?_⟩; (try dsimp only); rw [e1, List.map_append, List.length_append, ← hw1]; exact ⟨by (repeat (refine ⟨by first | exact lk_i rfl rfl | exact lk_d rfl rfl | exact lk_r rfl rfl rfl | exact lk_s rfl rfl rfl rfl, ?_⟩)); exact trivial, by (repeat (refine ⟨by first | exact ⟨rfl, rfl, rfl⟩, ?_⟩)); exact trivial, by rfl, by exact pin_0⟩)
  · have b2 : decide ((i : Int) < (ls.length : Int)) = false := by simpa using c2
    obtain rfl : i = ls.length := by omega
    have e3 : restI ls ix ls.length = restL ls ix := rfl
    rw [e3] at hml ⊢
    ((repeat' (first
    | (show SQ _ _ _ _ _ _ _ _; first | apply sq_nil | (apply q_move; exact rfl; exact rfl) | (apply q_assign; exact rfl; exact rfl) | (apply q_lss; exact rfl; exact rfl; exact rfl))
    | (show SQ _ _ _ _ _ _ _ _; (first | (apply q_ldap; exact rfl; exact rfl; exact (ty rfl); exact rfl; exact rfl; exact (by first | rfl | assumption | ((try simp only [Nat.zero_add]); refine List.getElem?_set_self ?_; (try simp only [List.length_set]); assumption)); exact rfl) | (apply q_callU; exact rfl; exact rfl; exact rfl; rotate_left; exact hR2 _; rotate_right; focus ((repeat' (first | exact FzL.nil | exact (by assumption : FzC _) _ | refine FzL.cons ?_ ?_ | exact Fz.of rfl | exact Fz.nil | exact Fz.emp | (apply Fz.fnC; assumption) | (apply Fz.sl2; exact rfl; exact (by first | omega | (simp; done) | (simp; omega)); first | exact rfl | exact dt_full (by first | omega | (simp; done) | (simp; omega)) | assumption) | apply Fz.agg | (apply Fz.ptrL; exact rfl; first | exact rfl | assumption) | apply Fz.fnL)); done))); (try simp only [put, rowsOf, plR, List.all_cons, selE, ovr, setH, del, cellsA, splice, isV, List.nil_append, List.cons_append, List.map_cons, List.map_nil, List.length_cons, List.length_nil, List.set_cons_zero, List.set_cons_succ, List.take_succ_cons, List.take_zero, List.take_nil, List.drop_succ_cons, List.drop_zero, List.drop_nil, List.append_nil, List.all_cons, List.all_nil, Bool.and_true, Bool.true_and, Bool.and_false, Bool.false_and, Nat.reduceAdd, Nat.zero_add, Nat.add_zero, Nat.reduceEqDiff, if_true, if_false, reduceIte]))
    | (show AW _ _ _ _ _ _ _ _; first | refine aw_region ?_ | (refine aw_seqk ?_; intro K hK) | (apply aw_cond_f; exact rfl; exact (by assumption)) | refine aw_ret ?_ | refine aw_exit ?_)
    | refine thn_n ?_
    | (refine hK _ _ _ ?_; clear hK K)
    | refine thn_e ?_
    | refine inb_same ?_
    | (clear hK K; refine hK _ _ _ ?_; clear hK K))); all_goals (repeat (clear hK K)))
    all_goals first | exact fin_r (fin_m2 rfl rfl rfl _ _ rfl rfl rfl) | exact fin_r (fin_mm rfl rfl rfl rfl rfl rfl rfl)
end Go.Proofs.Ytglfcaioapdiaaa.Bk

namespace Go.Proofs.Ytglfcaioapdiaaa.Bk
open Go
set_option linter.unusedSimpArgs false
set_option linter.unusedVariables false
def cstI (ls : List Ln) (ix : List Int) : Int := (ix.map fun i => (ls.getD i.toNat lnz).o).sum
theorem cstI_app (ls : List Ln) (p q : List Int) : cstI ls (p ++ q) = cstI ls p + cstI ls q := by simp [cstI]
theorem lkAt_app {ls : List Ln} {p : List Int} {y : Int} {j : Nat} (h : j < p.length) : lkAt ls (p ++ [y]) j = lkAt ls p j := by
  unfold lkAt
  simp only [List.getD, List.getElem?_append_left h, List.getElem?_append_left (show j - 1 < p.length by omega)]
theorem rtI_app {ls : List Ln} {p : List Int} {y : Int} : rtI ls (p ++ [y]) p.length = rtI ls p p.length := by
  unfold rtI
  refine List.map_congr_left fun j hj => ?_
  rw [List.mem_range] at hj
  exact lkAt_app (by omega)
theorem rtI_step {ls : List Ln} {p : List Int} {x y : Int} (h0 : p ≠ []) (hl : p.getLast? = some x) : rtI ls (p ++ [y]) (p ++ [y]).length = rtI ls p p.length ++ [ixG (linkP x y) ls] := by
  have hp0 : 0 < p.length := List.length_pos_iff.2 h0
  have e : (p ++ [y]).length = p.length + 1 := by simp
  rw [e, rtI_succ _ _ hp0, rtI_app]
  have e1 : (p ++ [y]).getD p.length 0 = y := by simp [List.getD]
  have e3 : (p ++ [y]).getD (p.length - 1) 0 = x := by
    simp only [List.getD, List.getElem?_append_left (show p.length - 1 < p.length by omega)]
    rw [← List.getLast?_eq_getElem?, hl]; rfl
  rw [lkAt, e1, e3]
theorem EL.uq {ls : List Ln} (hu : Uq ls) {x y o : Int} (h : EL ls x y o) : ∃ (i : Nat) (hi : i < ls.length), ixG (linkP x y) ls = i ∧ linkP x y ls[i] = true ∧ ls[i].o = o := by
  obtain ⟨l, hl, hor, e⟩ := h
  obtain ⟨i, hi, rfl⟩ := List.getElem_of_mem hl
  have hp : linkP x y ls[i] = true := linkP_iff.2 hor
  exact ⟨i, hi, ixG_uq hu hi hp, hp, e.symm⟩
theorem Pt.cst {ls : List Ln} (hu : Uq ls) {s : Int} {p : List Int} {c t : Int} (h : Pt (EL ls) s p c t) : cstI ls (rtI ls p p.length) = c := by
  induction h with
  | one => rfl
  | @step p c x y o h he hy ih =>
    obtain ⟨i, hi, e1, _, e2⟩ := he.uq hu
    rw [rtI_step h.ne h.last, cstI_app, ih, e1]
    simp [cstI, List.getD, hi, e2]
theorem Pt.mono {E E' : Int → Int → Int → Prop} (hE : ∀ x y o, E x y o → E' x y o) {s : Int} {p : List Int} {c t : Int} (h : Pt E s p c t) : Pt E' s p c t := by
  induction h with
  | one => exact .one
  | step h he hy ih => exact .step ih (hE _ _ _ he) hy
theorem EL.rest {ls : List Ln} {ix : List Int} {x y o : Int} (h : EL (restL ls ix) x y o) : EL ls x y o := by
  obtain ⟨l, hl, hor, e⟩ := h
  obtain ⟨i, hi, _, rfl⟩ := restL_mem hl
  exact ⟨ls[i], List.getElem_mem hi, hor, e⟩
theorem Pt.off {ls : List Ln} (hu : Uq ls) {ix : List Int} {s : Int} {p : List Int} {c t : Int} (h : Pt (EL (restL ls ix)) s p c t) : ∀ y ∈ rtI ls p p.length, y ∉ ix := by
  induction h with
  | one => intro y hy; simp [rtI] at hy
  | @step p c x y o h he hy ih =>
    rw [rtI_step h.ne h.last]
    intro z hz
    rcases List.mem_append.1 hz with hz | hz
    · exact ih z hz
    · obtain ⟨l, hl, hor, e⟩ := he
      obtain ⟨i, hi, ho, rfl⟩ := restL_mem hl
      have e1 := ixG_uq hu hi (linkP_iff.2 hor)
      rw [e1, List.mem_singleton] at hz
      subst hz
      intro hc
      have : offB ix i = true := List.any_eq_true.2 ⟨_, hc, by simp⟩
      rw [ho] at this; cases this
theorem rtL_way {n : Int} {ls : List Ln} {frm to : Int} (hL : LnsOk n ls) (hn : n ≤ 12) (ht : 0 ≤ to ∧ to < n) (hh : fh (farR n ls to) frm = true) : Pt (EL ls) frm (rtL n ls frm to) (fc (farR n ls to) frm) to := by
  have hW := FW.of (to := to) hL hn ht
  have hb := hW.bd hh
  exact (hW.way _ hh (by omega)).1
theorem best_le {n : Int} {ls : List Ln} {frm to : Int} (hL : LnsOk n ls) (hn : n ≤ 12) (ht : 0 ≤ to ∧ to < n) {p : List Int} {c : Int} (h : Pt (EL ls) frm p c to) : fh (farR n ls to) frm = true ∧ fc (farR n ls to) frm ≤ c := by
  have hW := FW.of (to := to) hL hn ht
  obtain ⟨v, hv, hle⟩ := far_least hW.good hW.fix (h.rev fun x y o h => h.symm)
  have hh : fh (farR n ls to) frm = true := by unfold fh; rw [hv]; rfl
  have ev := fget_of hh
  rw [hv] at ev
  refine ⟨hh, ?_⟩
  unfold leF at hle
  simp only [Option.some.injEq] at ev
  rw [ev] at hle
  dsimp only at hle
  omega
theorem rtL_head {n : Int} {ls : List Ln} {frm to : Int} : (rtL n ls frm to)[0]? = some frm := by
  simp [rtL, rlist, gat]
end Go.Proofs.Ytglfcaioapdiaaa.Bk

namespace Go.Proofs.Ytglfcaioapdiaaa.Bk
open Go Go.RowKit Go.Proofs.Ytglfcaioapdiaaa.Aw
set_option linter.unusedSimpArgs false
set_option linter.unusedVariables false
attribute [local irreducible] AW SQ Step RO RC DE Thn InB
theorem bkB_n {n : Int} {ls : List Ln} (h : bkB n ls = true) : 1 ≤ n ∧ n ≤ 12 := by
  simp only [bkB, Bool.and_eq_true, inB, decide_eq_true_eq] at h
  exact h.1.1
set_option maxHeartbeats 4000000 in
theorem implLinks_ok_ro (n : Int) (ls : List Ln) (rd : List Int) (hn : ls.length ≤ 1048576) (hr : rd.length ≤ 1048576) (h : bkB n ls = true) (h2 : rtB n ls rd = true) (k : Nat) :
    RO Try.prog 34 [.agg (bkL n ls), .dsl 1 (rd.map inL)] k (.tup [.sl k 0 (rtI ls rd rd.length).length, .v (.int .i64 0)]) [(k, ⟨2, 1, true, (rtI ls rd rd.length).map inL⟩)] (k + 1) := by
  have b1 : (!bkB n ls) = false := by rw [h]; rfl
  refine RO.ofm (.tup [.sl 0 0 (rtI ls rd rd.length).length, .v (.int .i64 0)]) ([(0, ⟨2, 1, true, (rtI ls rd rd.length).map inL⟩)]) 1 Try.func34 Try.ntmps34 rfl (goFn_of Try.func34 rfl (by kernel_rfl)) rfl rfl (by simp [renA, renL]) (by simp [shH, renB]) rfl ?_
  unfold bkL
  ((repeat' (first
    | (show SQ _ _ _ _ _ _ _ _; first | apply sq_nil | (apply q_move; exact rfl; exact rfl) | (apply q_assign; exact rfl; exact rfl) | (apply q_not; exact rfl; exact rfl) | (apply q_ext; exact rfl; exact rfl; exact rfl))
    | (show SQ _ _ _ _ _ _ _ _; (first | (apply q_ldap; exact rfl; exact rfl; exact (ty rfl); exact rfl; exact rfl; exact (by first | rfl | assumption | ((try simp only [Nat.zero_add]); refine List.getElem?_set_self ?_; (try simp only [List.length_set]); assumption)); exact rfl) | (apply q_box; exact rfl; exact rfl; exact rfl) | (apply q_callU; exact rfl; exact rfl; exact rfl; exact FzL.of rfl; exact ValidBackhaul_ro n ls hn _) | (apply q_callU; exact rfl; exact rfl; exact rfl; exact FzL.of rfl; exact linksOf_ok_ro n ls rd (bkB_n h) hn hr h2 _)); (try simp only [put, rowsOf, plR, List.all_cons, selE, ovr, setH, del, cellsA, splice, isV, List.nil_append, List.cons_append, List.map_cons, List.map_nil, List.length_cons, List.length_nil, List.set_cons_zero, List.set_cons_succ, List.take_succ_cons, List.take_zero, List.take_nil, List.drop_succ_cons, List.drop_zero, List.drop_nil, List.append_nil, List.all_cons, List.all_nil, Bool.and_true, Bool.true_and, Bool.and_false, Bool.false_and, Nat.reduceAdd, Nat.zero_add, Nat.add_zero, Nat.reduceEqDiff, if_true, if_false, reduceIte]))
    | (show AW _ _ _ _ _ _ _ _; first | refine aw_region ?_ | (refine aw_seqk ?_; intro K hK) | (apply aw_cond_f; exact rfl; exact rfl) | (apply aw_cond_f; exact rfl; exact (by assumption)) | refine aw_ret ?_ | refine aw_skip ?_)
    | refine thn_n ?_
    | (refine hK _ _ _ ?_; clear hK K))); all_goals (repeat (clear hK K)))
  all_goals exact fin_r (fin_m2 rfl rfl rfl _ _ rfl rfl rfl)
end Go.Proofs.Ytglfcaioapdiaaa.Bk

namespace Go.Proofs.Ytglfcaioapdiaaa.Bk
open Go Go.RowKit Go.Proofs.Ytglfcaioapdiaaa.Aw Go.Proofs.Ytglfcaioapdiaaa.Sr
set_option linter.unusedSimpArgs false
set_option linter.unusedVariables false
attribute [local irreducible] AW SQ Step RO RC DE Thn InB
set_option maxHeartbeats 4000000 in
theorem b10Has_ro (xs : List Int) (x : Int) (hn : xs.length ≤ 1048576) (k : Nat) : RO Try.prog 36 [.dsl 1 (xs.map inL), .v (.int .i64 x)] k (.v (.bool (xs.any fun y => y == x))) [] k := by
  refine RO.ofv' Try.func36 Try.ntmps36 rfl (goFn_of Try.func36 rfl (by kernel_rfl)) rfl rfl ?_
  ((repeat' (first
    | (show SQ _ _ _ _ _ _ _ _; first | apply sq_nil | (apply q_assign; exact rfl; exact rfl))
    | (show AW _ _ _ _ _ _ _ _; first | refine aw_region ?_ | (refine aw_seqk ?_; intro K hK) | refine aw_block ?_)
    | refine thn_n ?_
    | (refine hK _ _ _ ?_; clear hK K))); all_goals (repeat (clear hK K)))
  refine aw_loop (ρ := id) (ι := Nat) (fun i => ([(5, .v (.int .i64 i)), (1, .v (.int .i64 x)), (0, .dsl 1 (xs.map inL))], [], 0))
    (fun i => i ≤ xs.length ∧ (xs.take i).any (fun y => y == x) = false) (fun i => xs.length - i) 0 ⟨Nat.zero_le _, by simp⟩ ⟨by (repeat (refine ⟨by first | exact lk_i rfl rfl | exact lk_d rfl rfl, ?_⟩)); exact trivial, by exact trivial, by rfl, by exact pin_0⟩ ?_
  rintro i ⟨hi, hb⟩
  have hml : (xs.map inL).length = xs.length := List.length_map _
  by_cases c1 : i < xs.length
  · have b1 : decide ((i : Int) < ((xs.map inL).length : Int)) = true := by simpa using c1
    have hrow : (xs.map inL)[((i : Int)).toNat]? = some (inL xs[i]) := by simp [c1]
    rw [inL_eq] at hrow
    have hw : IntKind.i64.wrap ((i : Int) + 1) = ((i + 1 : Nat) : Int) := by rw [IntWalk.i64_in _ (by omega)]; omega
    cases c2 : (xs[i] == x) with
    | true =>
      ((repeat' (first
    | (show SQ _ _ _ _ _ _ _ _; first | apply sq_nil | (apply q_move; exact rfl; exact rfl) | (apply q_assign; exact rfl; exact rfl) | (apply q_lend; exact rfl; exact rfl; exact (ty rfl); exact rfl) | (apply q_eql; exact rfl; exact rfl; exact rfl) | (apply q_lss; exact rfl; exact rfl; exact rfl) | (apply q_ixd; exact rfl; exact rfl; exact rfl; exact (ty rfl); exact rfl; exact (by first | omega | (simp; done) | (simp; omega)); exact (by first | omega | (simp; done) | (simp; omega)); exact (by first | rfl | assumption)) | (apply q_ld1d; exact rfl; exact rfl; exact (ty rfl); exact rfl; exact rfl))
    | (show AW _ _ _ _ _ _ _ _; first | refine aw_region ?_ | (refine aw_seqk ?_; intro K hK) | refine aw_block ?_ | (apply aw_cond_t; exact rfl; exact (by assumption)) | refine aw_ret ?_ | refine aw_skip ?_)
    | refine thn_n ?_
    | (refine hK _ _ _ ?_; clear hK K)
    | refine thn_r ?_
    | refine inb_r ?_)); all_goals (repeat (clear hK K)))
      all_goals refine fin_r (fin_b rfl ?_)
      all_goals exact (List.any_eq_true.2 ⟨xs[i], List.getElem_mem c1, c2⟩).symm
    | false =>
      ((repeat' (first
    | (show SQ _ _ _ _ _ _ _ _; first | apply sq_nil | (apply q_move; exact rfl; exact rfl) | (apply q_assign; exact rfl; exact rfl) | (apply q_lend; exact rfl; exact rfl; exact (ty rfl); exact rfl) | (apply q_add; exact rfl; exact rfl; exact rfl) | (apply q_eql; exact rfl; exact rfl; exact rfl) | (apply q_lss; exact rfl; exact rfl; exact rfl) | (apply q_ixd; exact rfl; exact rfl; exact rfl; exact (ty rfl); exact rfl; exact (by first | omega | (simp; done) | (simp; omega)); exact (by first | omega | (simp; done) | (simp; omega)); exact (by first | rfl | assumption)) | (apply q_ld1d; exact rfl; exact rfl; exact (ty rfl); exact rfl; exact rfl))
    | (show AW _ _ _ _ _ _ _ _; first | refine aw_region ?_ | (refine aw_seqk ?_; intro K hK) | refine aw_block ?_ | (apply aw_cond_t; exact rfl; exact (by assumption)) | (apply aw_cond_f; exact rfl; exact (by assumption)) | refine aw_skip ?_)
    | refine thn_n ?_
    | (refine hK _ _ _ ?_; clear hK K)
    | refine inb_n ?_)); all_goals (repeat (clear hK K)))
      all_goals (refine ⟨i + 1, id, ⟨c1, by rw [List.take_succ_eq_append_getElem c1, List.any_append, hb]; simpa using c2⟩, by omega, ?_⟩; (try dsimp only); rw [← hw]; exact ⟨by (repeat (refine ⟨by first | exact lk_i rfl rfl | exact lk_d rfl rfl, ?_⟩)); exact trivial, by exact trivial, by rfl, by exact pin_0⟩)
  · have b1 : decide ((i : Int) < ((xs.map inL).length : Int)) = false := by simpa using c1
    obtain rfl : i = xs.length := by omega
    rw [List.take_length] at hb
    ((repeat' (first
    | (show SQ _ _ _ _ _ _ _ _; first | apply sq_nil | (apply q_move; exact rfl; exact rfl) | (apply q_assign; exact rfl; exact rfl) | (apply q_lend; exact rfl; exact rfl; exact (ty rfl); exact rfl) | (apply q_lss; exact rfl; exact rfl; exact rfl))
    | (show AW _ _ _ _ _ _ _ _; first | refine aw_region ?_ | (refine aw_seqk ?_; intro K hK) | (apply aw_cond_f; exact rfl; exact (by assumption)) | refine aw_ret ?_ | refine aw_exit ?_)
    | refine thn_n ?_
    | (refine hK _ _ _ ?_; clear hK K)
    | refine thn_e ?_
    | refine inb_same ?_
    | (clear hK K; refine hK _ _ _ ?_; clear hK K))); all_goals (repeat (clear hK K)))
    all_goals refine fin_r (fin_b rfl ?_)
    all_goals exact hb.symm
theorem cstI_bd {ls : List Ln} (hL : ∀ l ∈ ls, 0 ≤ l.o ∧ l.o ≤ 1000000) : ∀ ix : List Int, (∀ x ∈ ix, 0 ≤ x ∧ x < ls.length) → 0 ≤ cstI ls ix ∧ cstI ls ix ≤ 1000000 * (ix.length : Int)
  | [], _ => by simp [cstI]
  | x :: ix, h => by
    obtain ⟨g1, g2⟩ := cstI_bd hL ix fun y hy => h y (List.mem_cons_of_mem _ hy)
    obtain ⟨h1, h2⟩ := h x List.mem_cons_self
    have hx : ls.getD x.toNat lnz ∈ ls := by simp [List.getD, show x.toNat < ls.length by omega]
    have := hL _ hx
    have e : cstI ls (x :: ix) = (ls.getD x.toNat lnz).o + cstI ls ix := by simp [cstI]
    rw [e, List.length_cons]
    omega
theorem cstI_succ {ls : List Ln} {ix : List Int} {i : Nat} (h : i < ix.length) : cstI ls (ix.take (i + 1)) = cstI ls (ix.take i) + (ls.getD ix[i].toNat lnz).o := by
  rw [List.take_succ_eq_append_getElem h, cstI_app]; simp [cstI]
set_option maxHeartbeats 4000000 in
theorem b10Cost_ro (n : Int) (ls : List Ln) (rd : List Int) (hn : ls.length ≤ 1048576) (hr : rd.length ≤ 1000) (hb : bkB n ls = true) (hL : LnsOk n ls) (h2 : rtB n ls rd = true) (k : Nat) :
    RO Try.prog 37 [.agg (bkL n ls), .dsl 1 (rd.map inL)] k (.v (.int .i64 (cstI ls (rtI ls rd rd.length)))) [] k := by
  have hLk := implLinks_ok_ro n ls rd hn (by omega) hb h2
  have hix := rtI_in' h2
  have hlen := rtI_len ls rd rd.length
  generalize rtI ls rd rd.length = ix at *
  have hil : ix.length ≤ 1000 := by omega
  have b0 : ((0 : Int) != 0) = false := rfl
  have hml : (ls.map lnL).length = ls.length := List.length_map _
  have hsum0 : cstI ls (ix.take 0) = 0 := rfl
  unfold bkL at hLk ⊢
  refine RO.ofv' Try.func37 Try.ntmps37 rfl (goFn_of Try.func37 rfl (by kernel_rfl)) rfl rfl ?_
  ((repeat' (first
    | (show SQ _ _ _ _ _ _ _ _; first | apply sq_nil | (apply q_move; exact rfl; exact rfl) | (apply q_assign; exact rfl; exact rfl) | (apply q_ext; exact rfl; exact rfl; exact rfl) | (apply q_neq; exact rfl; exact rfl; exact rfl))
    | (show SQ _ _ _ _ _ _ _ _; (first | (apply q_ldap; exact rfl; exact rfl; exact (ty rfl); exact rfl; exact rfl; exact (by first | rfl | assumption | ((try simp only [Nat.zero_add]); refine List.getElem?_set_self ?_; (try simp only [List.length_set]); assumption)); exact rfl) | (apply q_box; exact rfl; exact rfl; exact rfl) | (apply q_callU; exact rfl; exact rfl; exact rfl; exact FzL.of rfl; exact hLk _)); (try simp only [put, rowsOf, plR, List.all_cons, selE, ovr, setH, del, cellsA, splice, isV, List.nil_append, List.cons_append, List.map_cons, List.map_nil, List.length_cons, List.length_nil, List.set_cons_zero, List.set_cons_succ, List.take_succ_cons, List.take_zero, List.take_nil, List.drop_succ_cons, List.drop_zero, List.drop_nil, List.append_nil, List.all_cons, List.all_nil, Bool.and_true, Bool.true_and, Bool.and_false, Bool.false_and, Nat.reduceAdd, Nat.zero_add, Nat.add_zero, Nat.reduceEqDiff, if_true, if_false, reduceIte]))
    | (show AW _ _ _ _ _ _ _ _; first | refine aw_region ?_ | (refine aw_seqk ?_; intro K hK) | refine aw_block ?_ | (apply aw_cond_f; exact rfl; exact rfl) | refine aw_skip ?_)
    | refine thn_n ?_
    | (refine hK _ _ _ ?_; clear hK K))); all_goals (repeat (clear hK K)))
  refine aw_loop (ρ := id) (ι := Nat) (fun i => ([(8, .v (.int .i64 i)), (7, .v (.int .i64 (cstI ls (ix.take i)))), (5, .sl 1 0 ix.length), (2, .ptr 0 0 0)], [(0, ⟨31, 2, false, [[.v (.int .i64 n), .dsl 4 (ls.map lnL)]]⟩), (1, ⟨2, 1, true, ix.map inL⟩)], 2))
    (fun i => i ≤ ix.length) (fun i => ix.length - i) 0 (Nat.zero_le _) ⟨by (repeat (refine ⟨by first | exact lk_i rfl rfl | exact lk_r rfl rfl rfl | exact lk_s rfl rfl rfl rfl, ?_⟩)); exact trivial, by (repeat (refine ⟨by first | exact ⟨rfl, rfl, rfl⟩, ?_⟩)); exact trivial, by rfl, by exact pin_0⟩ ?_
  intro i hi
  by_cases c1 : i < ix.length
  · have b1 : decide ((i : Int) < (ix.length : Int)) = true := by simpa using c1
    have hrow : (ix.map inL)[0 + ((i : Int)).toNat]? = some (inL ix[i]) := by simp [c1]
    rw [inL_eq] at hrow
    obtain ⟨x0, x1⟩ := hix ix[i] (List.getElem_mem c1)
    have x2 : ix[i].toNat < ls.length := by omega
    have hrow2 : (ls.map lnL)[(ix[i]).toNat]? = some (lnL ls[ix[i].toNat]) := by simp [x2]
    rw [lnL_eq] at hrow2
    have b2 : decide (ix[i] < 0) = false := by simpa using x0
    have b3 : decide (((ls.map lnL).length : Int) ≤ ix[i]) = false := by rw [hml]; simpa using x1
    have hw : IntKind.i64.wrap ((i : Int) + 1) = ((i + 1 : Nat) : Int) := by rw [IntWalk.i64_in _ (by omega)]; omega
    have hs := cstI_bd (fun l hl => (hL l hl).2.2) (ix.take i) fun y hy => hix y (List.mem_of_mem_take hy)
    have hlo := hL _ (List.getElem_mem x2)
    have ht : (ix.take i).length ≤ 1000 := by rw [List.length_take]; omega
    have e1 := cstI_succ (ls := ls) c1
    have eD : (ls.getD ix[i].toNat lnz).o = ls[ix[i].toNat].o := by simp [List.getD, x2]
    rw [eD] at e1
    have hw2 : IntKind.i64.wrap (cstI ls (ix.take i) + ls[ix[i].toNat].o) = cstI ls (ix.take (i + 1)) := by rw [e1]; exact IntWalk.i64_in _ (by omega)
    ((repeat' (first
    | (show SQ _ _ _ _ _ _ _ _; first | apply sq_nil | (apply q_move; exact rfl; exact rfl) | (apply q_assign; exact rfl; exact rfl) | (apply q_lenl; exact rfl; exact rfl; exact (ty rfl); exact rfl) | (apply q_add; exact rfl; exact rfl; exact rfl) | (apply q_lss; exact rfl; exact rfl; exact rfl))
    | (show DE _ _ _ _ _ _ _ _ _ _ _ _; first | (apply e_move; exact rfl; exact rfl; exact rfl) | (apply e_assign; exact rfl; exact rfl; exact rfl) | (apply e_pick_f; exact rfl; exact rfl; exact rfl; exact (by first | assumption | exact rfl); exact rfl) | (apply e_fieldAddr; exact rfl; exact rfl; exact (ty rfl); exact rfl; exact rfl; exact rfl; exact rfl; exact rfl) | (apply e_lend; exact rfl; exact rfl; exact (ty rfl); exact rfl; exact rfl) | (apply e_add; exact rfl; exact rfl; exact rfl; exact rfl) | (apply e_lss; exact rfl; exact rfl; exact rfl; exact rfl) | (apply e_geq; exact rfl; exact rfl; exact rfl; exact rfl) | (apply e_ixd; exact rfl; exact rfl; exact rfl; exact (ty rfl); exact rfl; exact (by first | omega | (simp; done) | (simp; omega)); exact (by first | omega | (simp; done) | (simp; omega)); exact (by first | rfl | assumption); exact rfl) | (apply e_ixl; exact rfl; exact rfl; exact rfl; exact (ty rfl); exact rfl; exact rfl; exact rfl; exact (by first | omega | (simp; done) | (simp; omega)); exact (by first | omega | (simp; done) | (simp; omega)); exact rfl) | (apply e_ld1d; exact rfl; exact rfl; exact (ty rfl); exact rfl; exact rfl; exact rfl) | (apply e_ld1p; exact rfl; exact rfl; exact (ty rfl); exact rfl; exact rfl; exact (by first | rfl | assumption | ((try simp only [Nat.zero_add]); refine List.getElem?_set_self ?_; (try simp only [List.length_set]); assumption)); exact rfl; exact rfl) | (apply e_g; exact rfl; exact rfl; exact rfl; exact (by assumption)))
    | (show DE _ _ _ _ _ _ _ _ _ _ _ _; (first | (apply dr_nil; exact trivial)); (try simp only [put, rowsOf, plR, List.all_cons, selE, ovr, setH, del, cellsA, splice, isV, List.nil_append, List.cons_append, List.map_cons, List.map_nil, List.length_cons, List.length_nil, List.set_cons_zero, List.set_cons_succ, List.take_succ_cons, List.take_zero, List.take_nil, List.drop_succ_cons, List.drop_zero, List.drop_nil, List.append_nil, List.all_cons, List.all_nil, Bool.and_true, Bool.true_and, Bool.and_false, Bool.false_and, Nat.reduceAdd, Nat.zero_add, Nat.add_zero, Nat.reduceEqDiff, if_true, if_false, reduceIte]))
    | (show AW _ _ _ _ _ _ _ _; first | refine aw_region ?_ | (refine aw_seqk ?_; intro K hK) | refine aw_block ?_ | (apply aw_cond_t; exact rfl; exact (by assumption)) | (apply aw_cond_f; exact rfl; exact (by assumption)) | refine aw_skip ?_ | refine aw_drawE (id := 8) [0, 0, 3, 7, 15, 31, 63, 63, 255, 511, 63, 1087, 3135, 8191, 16383] [0, 0, 1, 1, 0, 0, 0, 0, 1, 1, 0, 1, 0, 0, 0] mixed (by kernel_rfl) ?_ | refine aw_drawE (id := 10) [0, 0, 2, 0, 0, 24, 56, 126, 254, 510, 1023, 2047] [0, 0, 1, 0, 0, 1, 1, 0, 0, 1, 0, 0] mixed (by kernel_rfl) ?_)
    | refine thn_n ?_
    | (refine hK _ _ _ ?_; clear hK K)
    | refine inb_n ?_)); all_goals (repeat (clear hK K)))
    all_goals (refine ⟨i + 1, id, c1, by omega, ?_⟩; (try dsimp only); rw [← hw, ← hw2]; exact ⟨by (repeat (refine ⟨by first | exact lk_i rfl rfl | exact lk_r rfl rfl rfl | exact lk_s rfl rfl rfl rfl, ?_⟩)); exact trivial, by (repeat (refine ⟨by first | exact ⟨rfl, rfl, rfl⟩, ?_⟩)); exact trivial, by rfl, by exact pin_0⟩)
  · have b1 : decide ((i : Int) < (ix.length : Int)) = false := by simpa using c1
    obtain rfl : i = ix.length := by omega
    rw [List.take_length]
    ((repeat' (first
    | (show SQ _ _ _ _ _ _ _ _; first | apply sq_nil | (apply q_move; exact rfl; exact rfl) | (apply q_assign; exact rfl; exact rfl) | (apply q_lenl; exact rfl; exact rfl; exact (ty rfl); exact rfl) | (apply q_lss; exact rfl; exact rfl; exact rfl))
    | (show AW _ _ _ _ _ _ _ _; first | refine aw_region ?_ | (refine aw_seqk ?_; intro K hK) | (apply aw_cond_f; exact rfl; exact (by assumption)) | refine aw_ret ?_ | refine aw_exit ?_)
    | refine thn_n ?_
    | (refine hK _ _ _ ?_; clear hK K)
    | refine thn_e ?_
    | refine inb_same ?_
    | (clear hK K; refine hK _ _ _ ?_; clear hK K))); all_goals (repeat (clear hK K)))
    all_goals exact fin_r (fin_i rfl rfl)
set_option maxHeartbeats 4000000 in
theorem b10Long_ro (a : List Int) (m : Nat) : RO Try.prog 32 [.dsl 1 (byL a)] m (.v (.bool (decide (1048576 < (a.length : Int))))) [] m := by
  have h1 : (byL a).length = a.length := List.length_map _
  refine RO.ofv' Try.func32 Try.ntmps32 rfl (goFn_of Try.func32 rfl (by kernel_rfl)) rfl rfl ?_
  ((repeat' (first
    | (show SQ _ _ _ _ _ _ _ _; first | apply sq_nil | (apply q_move; exact rfl; exact rfl) | (apply q_assign; exact rfl; exact rfl) | (apply q_lend; exact rfl; exact rfl; exact (ty rfl); exact rfl) | (apply q_gtr; exact rfl; exact rfl; exact rfl))
    | (show AW _ _ _ _ _ _ _ _; first | refine aw_region ?_ | (refine aw_seqk ?_; intro K hK) | refine aw_ret ?_)
    | refine thn_n ?_
    | (refine hK _ _ _ ?_; clear hK K))); all_goals (repeat (clear hK K)))
  all_goals refine fin_r (fin_b rfl ?_)
  all_goals simp_all
end Go.Proofs.Ytglfcaioapdiaaa.Bk

namespace Go.Proofs.Ytglfcaioapdiaaa.Sr
open Go Go.RowKit Go.Proofs.Ytglfcaioapdiaaa.Aw
set_option linter.unusedSimpArgs false
set_option linter.unusedVariables false
attribute [local irreducible] AW SQ Step RO RC DE Thn InB
set_option maxHeartbeats 4000000 in
theorem one_rc (b : Nat) (s : Sr) (n : Int) (h : s.ok 900000) (hn : n ≤ 1000000) (j : Nat) : RC Try.prog 86 [.ptr b 0 0, .v (.int .i64 n)] [(b, ⟨133, 3, false, [srR s]⟩)] j (.v (.bool ((pk s n).1 == 0))) [(b, some ⟨133, 3, false, [srR (pk s n).2]⟩)] j := by
  refine RC.ofc [b] 0 [.ptr 0 0 0, .v (.int .i64 n)] [(0, ⟨133, 3, false, [srR s]⟩)] (.v (.bool ((pk s n).1 == 0))) [(0, some ⟨133, 3, false, [srR (pk s n).2]⟩)] Try.func86 Try.ntmps86 rfl (goFn_of Try.func86 rfl (by kernel_rfl)) rfl rfl rfl rfl rfl rfl rfl rfl (by simp_all) rfl ?_
  have hp := pick_rc 0 s n h hn
  ((repeat' (first
    | (show SQ _ _ _ _ _ _ _ _; first | apply sq_nil | (apply q_move; exact rfl; exact rfl) | (apply q_assign; exact rfl; exact rfl) | (apply q_eql; exact rfl; exact rfl; exact rfl))
    | (show SQ _ _ _ _ _ _ _ _; (first | (apply q_callC; exact rfl; exact rfl; exact rfl; exact hp _; (focus ((repeat (first | exact trivial | refine ⟨by first | exact rfl | assumption, ?_⟩)); done)); skip)); (try simp only [put, rowsOf, plR, List.all_cons, selE, ovr, setH, del, cellsA, splice, isV, List.nil_append, List.cons_append, List.map_cons, List.map_nil, List.length_cons, List.length_nil, List.set_cons_zero, List.set_cons_succ, List.take_succ_cons, List.take_zero, List.take_nil, List.drop_succ_cons, List.drop_zero, List.drop_nil, List.append_nil, List.all_cons, List.all_nil, Bool.and_true, Bool.true_and, Bool.and_false, Bool.false_and, Nat.reduceAdd, Nat.zero_add, Nat.add_zero, Nat.reduceEqDiff, if_true, if_false, reduceIte]))
    | (show AW _ _ _ _ _ _ _ _; first | refine aw_region ?_ | (refine aw_seqk ?_; intro K hK) | refine aw_ret ?_)
    | refine thn_n ?_
    | (refine hK _ _ _ ?_; clear hK K))); all_goals (repeat (clear hK K)))
  exact finc (fun i => i) (.r1 _ _ (.tmp _ _ rfl)) rfl (fun _ _ => rfl) ⟨rfl, trivial⟩ rfl
def am (ws : List Int) (s : Sr) : Int × Sr := (ws.getD (pk s ws.length).1.toNat 0, (pk s ws.length).2)
theorem am_ok {s : Sr} {k : Int} (ws : List Int) (h : s.ok k) : (am ws s).2.ok (k + 2) := pk_ok _ h
def nuR (ws : List Int) : List (List AV) := ws.map fun w => [.v (.int .i64 w)]
set_option maxHeartbeats 4000000 in
theorem among_rc (b c : Nat) (s : Sr) (ws : List Int) (hbc : b ≠ c) (h : s.ok 900000) (hw : 1 ≤ ws.length) (hw2 : ws.length ≤ 1000) (k : Nat) :
    RC Try.prog 85 [.ptr b 0 0, .sl c 0 ws.length] [(b, ⟨133, 3, false, [srR s]⟩), (c, ⟨2, 1, true, nuR ws⟩)] k (.v (.int .i64 (am ws s).1)) [(b, some ⟨133, 3, false, [srR (am ws s).2]⟩), (c, some ⟨2, 1, true, nuR ws⟩)] k := by
  have hp := pk_bd s ws.length (by omega)
  obtain ⟨i, hi⟩ : ∃ i : Nat, (pk s ws.length).1 = i := ⟨(pk s ws.length).1.toNat, by omega⟩
  have hil : i < ws.length := by omega
  have hr2 : (nuR ws)[0 + ((i : Int)).toNat]? = some [.v (.int .i64 ws[i])] := by simp [nuR, hil]
  have hv : (am ws s).1 = ws[i] := by simp [am, hi, hil]
  have hs : (am ws s).2 = (pk s ws.length).2 := rfl
  rw [hv, hs]
  refine RC.ofc [b, c] 0 [.ptr 0 0 0, .sl 1 0 ws.length] [(0, ⟨133, 3, false, [srR s]⟩), (1, ⟨2, 1, true, nuR ws⟩)] (.v (.int .i64 ws[i])) [(0, some ⟨133, 3, false, [srR (pk s ws.length).2]⟩), (1, some ⟨2, 1, true, nuR ws⟩)] Try.func85 Try.ntmps85 rfl (goFn_of Try.func85 rfl (by kernel_rfl)) rfl rfl rfl rfl rfl rfl rfl rfl (by simp_all) rfl ?_
  have hpk := pick_rc 0 s (ws.length : Int) h (by omega)
  rw [hi] at hpk
  ((repeat' (first
    | (show SQ _ _ _ _ _ _ _ _; first | apply sq_nil | (apply q_move; exact rfl; exact rfl) | (apply q_assign; exact rfl; exact rfl) | (apply q_lenl; exact rfl; exact rfl; exact (ty rfl); exact rfl) | (apply q_ixl; exact rfl; exact rfl; exact rfl; exact (ty rfl); exact rfl; exact rfl; exact rfl; exact (by first | omega | (simp; done) | (simp; omega)); exact (by first | omega | (simp; done) | (simp; omega))) | (apply q_ld1p; exact rfl; exact rfl; exact (ty rfl); exact rfl; exact rfl; exact (by first | rfl | assumption | ((try simp only [Nat.zero_add]); refine List.getElem?_set_self ?_; (try simp only [List.length_set]); assumption)); exact rfl))
    | (show SQ _ _ _ _ _ _ _ _; (first | (apply q_callC; exact rfl; exact rfl; exact rfl; exact hpk _; (focus ((repeat (first | exact trivial | refine ⟨by first | exact rfl | assumption, ?_⟩)); done)); skip)); (try simp only [put, rowsOf, plR, List.all_cons, selE, ovr, setH, del, cellsA, splice, isV, List.nil_append, List.cons_append, List.map_cons, List.map_nil, List.length_cons, List.length_nil, List.set_cons_zero, List.set_cons_succ, List.take_succ_cons, List.take_zero, List.take_nil, List.drop_succ_cons, List.drop_zero, List.drop_nil, List.append_nil, List.all_cons, List.all_nil, Bool.and_true, Bool.true_and, Bool.and_false, Bool.false_and, Nat.reduceAdd, Nat.zero_add, Nat.add_zero, Nat.reduceEqDiff, if_true, if_false, reduceIte]))
    | (show AW _ _ _ _ _ _ _ _; first | refine aw_region ?_ | (refine aw_seqk ?_; intro K hK) | refine aw_ret ?_)
    | refine thn_n ?_
    | (refine hK _ _ _ ?_; clear hK K))); all_goals (repeat (clear hK K)))
  exact finc (fun i => i) (.r1 _ _ (.tmp _ _ rfl)) rfl (fun _ _ => rfl) ⟨rfl, rfl, trivial⟩ rfl
end Go.Proofs.Ytglfcaioapdiaaa.Sr

namespace Go.Proofs.Ytglfcaioapdiaaa.Bk
open Go Go.RowKit Go.Proofs.Ytglfcaioapdiaaa.Aw Go.Proofs.Ytglfcaioapdiaaa.Sr
set_option linter.unusedSimpArgs false
set_option linter.unusedVariables false
attribute [local irreducible] AW SQ Step RO RC DE Thn InB
def onD (kind x y : Int) (s : Sr) : Bool × Sr :=
  if (pk s 4).1 < kind then (true, (pk s 4).2) else if y = x + 1 then (!((pk (pk s 4).2 6).1 == 0), (pk (pk s 4).2 6).2) else (false, (pk s 4).2)
theorem onD_ok {kind x y : Int} {s : Sr} {k : Int} (h : s.ok k) : (onD kind x y s).2.ok (k + 4) := by
  unfold onD
  split
  · exact (pk_ok 4 h).mono (by omega)
  · split
    · have := pk_ok 6 (pk_ok 4 h); exact this.mono (by omega)
    · exact (pk_ok 4 h).mono (by omega)
def ws1 : List Int := [0, 10, 10, 20, 50, 100, 1000, 30000]
def ws2 : List Int := [1, 10, 10, 100, 155, 400, 1000]
def stepD (kind x y : Int) (st : Sr × List Ln) : Sr × List Ln :=
  if (onD kind x y st.1).1 = true ∧ st.2.length ≠ 32 then ((am ws2 (am ws1 (onD kind x y st.1).2).2).2, st.2 ++ [⟨x, y, (am ws1 (onD kind x y st.1).2).1, (am ws2 (am ws1 (onD kind x y st.1).2).2).1⟩]) else ((onD kind x y st.1).2, st.2)
structure DOk (k : Int) (st : Sr × List Ln) : Prop where
  ok : st.1.ok k
  le : st.2.length ≤ 32
theorem DOk.mono {k k' : Int} {st : Sr × List Ln} (h : DOk k st) (hk : k ≤ k') : DOk k' st := ⟨h.ok.mono hk, h.le⟩
theorem stepD_ok {kind x y : Int} {st : Sr × List Ln} {k : Int} (h : DOk k st) : DOk (k + 8) (stepD kind x y st) := by
  unfold stepD
  split
  · rename_i hc
    refine ⟨?_, ?_⟩
    · have := am_ok ws2 (am_ok ws1 (onD_ok (kind := kind) (x := x) (y := y) h.ok))
      exact this.mono (by omega)
    · have := h.le
      have := hc.2
      simp only [List.length_append, List.length_singleton]
      omega
  · exact ⟨(onD_ok h.ok).mono (by omega), h.le⟩
def inD (kind x : Int) (st : Sr × List Ln) : Nat → Sr × List Ln
  | 0 => st
  | j + 1 => stepD kind x (x + 1 + (j : Int)) (inD kind x st j)
theorem inD_ok {kind x : Int} {st : Sr × List Ln} {k : Int} (h : DOk k st) : ∀ j : Nat, DOk (k + 8 * (j : Int)) (inD kind x st j)
  | 0 => h.mono (by omega)
  | j + 1 => (stepD_ok (inD_ok h j)).mono (by omega)
def outD (kind n : Int) (st : Sr × List Ln) : Nat → Sr × List Ln
  | 0 => st
  | i + 1 => inD kind i (outD kind n st i) (n - ((i : Int) + 1)).toNat
theorem outD_ok {kind n : Int} {st : Sr × List Ln} {k : Int} (hn : n ≤ 12) (h : DOk k st) : ∀ i : Nat, DOk (k + 96 * (i : Int)) (outD kind n st i)
  | 0 => h.mono (by omega)
  | i + 1 => (inD_ok (outD_ok hn h i) _).mono (by omega)
def nD (s : Sr) : Int := if (pk (pk s 7).2 10).1 == 0 then 12 else (pk s 7).1 + 1
def kD (s : Sr) : Int := (pk (pk (pk s 7).2 10).2 3).1 + 1
def sD (s : Sr) : Sr := (pk (pk (pk s 7).2 10).2 3).2
theorem nD_in (s : Sr) : 1 ≤ nD s ∧ nD s ≤ 12 := by
  have := pk_bd s 7 (by omega)
  unfold nD; split <;> omega
theorem kD_in (s : Sr) : 1 ≤ kD s ∧ kD s ≤ 3 := by
  have := pk_bd (pk (pk s 7).2 10).2 3 (by omega)
  unfold kD; omega
theorem sD_ok {s : Sr} {k : Int} (h : s.ok k) : (sD s).ok (k + 6) := (pk_ok 3 (pk_ok 10 (pk_ok 7 h))).mono (by omega)
def drD (s : Sr) : Sr × List Ln := outD (kD s) (nD s) (sD s, []) (nD s).toNat
theorem drD_ok {s : Sr} {k : Int} (h : s.ok k) : DOk (k + 2000) (drD s) := by
  have hn := nD_in s
  refine (outD_ok (k := k + 6) (kind := kD s) (st := (sD s, [])) hn.2 ⟨sD_ok h, by simp⟩ (nD s).toNat).mono ?_
  omega
theorem onD_1 {kind x y : Int} {s : Sr} (h : (pk s 4).1 < kind) : onD kind x y s = (true, (pk s 4).2) := if_pos h
theorem onD_2 {kind x y : Int} {s : Sr} (h : ¬ (pk s 4).1 < kind) (hy : y = x + 1) : onD kind x y s = (!((pk (pk s 4).2 6).1 == 0), (pk (pk s 4).2 6).2) := by
  unfold onD; rw [if_neg h, if_pos hy]
theorem onD_3 {kind x y : Int} {s : Sr} (h : ¬ (pk s 4).1 < kind) (hy : y ≠ x + 1) : onD kind x y s = (false, (pk s 4).2) := by
  unfold onD; rw [if_neg h, if_neg hy]
theorem stepD_no {kind x y : Int} {st : Sr × List Ln} {b : Bool} {s' : Sr} (e : onD kind x y st.1 = (b, s')) (h : b = false ∨ st.2.length = 32) : stepD kind x y st = (s', st.2) := by
  unfold stepD; rw [e, if_neg]
  rintro ⟨h1, h2⟩
  rcases h with h | h
  · rw [h] at h1; cases h1
  · exact h2 h
theorem stepD_yes {kind x y : Int} {st : Sr × List Ln} {s' : Sr} (e : onD kind x y st.1 = (true, s')) (h : st.2.length ≠ 32) : stepD kind x y st = ((am ws2 (am ws1 s').2).2, st.2 ++ [⟨x, y, (am ws1 s').1, (am ws2 (am ws1 s').2).1⟩]) := by
  unfold stepD; rw [e, if_pos ⟨rfl, h⟩]
set_option maxHeartbeats 4000000 in
theorem l25DrawOk_rc (b : Nat) (s : Sr) (h : s.ok 100000) (k : Nat) : RC Try.prog 132 [.ptr b 0 0] [(b, ⟨133, 3, false, [srR s]⟩)] k (.agg [.v (.int .i64 (nD s)), .sl k 0 (drD s).2.length])
    [(b, some ⟨133, 3, false, [srR (drD s).1]⟩), (k, some ⟨56, 4, true, (drD s).2.map lnL⟩)] (k + 1) := by
  have h1 := pick_rc 0 s 7 (h.mono (by omega)) (by omega)
  have h2 := one_rc 0 (pk s 7).2 10 ((pk_ok 7 h).mono (by omega)) (by omega)
  have h3 := pick_rc 0 (pk (pk s 7).2 10).2 3 ((pk_ok 10 (pk_ok 7 h)).mono (by omega)) (by omega)
  have hb1 := pk_bd s 7 (by omega)
  have hb3 := pk_bd (pk (pk s 7).2 10).2 3 (by omega)
  have hw1 : IntKind.i64.wrap ((pk s 7).1 + 1) = (pk s 7).1 + 1 := IntWalk.i64_in _ (by omega)
  have hw3 : IntKind.i64.wrap ((pk (pk (pk s 7).2 10).2 3).1 + 1) = kD s := IntWalk.i64_in _ (by omega)
  have hnD := nD_in s
  have hkD := kD_in s
  have hv : nD s = (if ((pk (pk s 7).2 10).1 == 0) = true then 12 else IntKind.i64.wrap ((pk s 7).1 + 1)) := by rw [hw1]; rfl
  have hst0 : DOk 200000 (sD s, ([] : List Ln)) := ⟨(sD_ok h).mono (by omega), by simp⟩
  have hend : drD s = outD (kD s) (nD s) (sD s, []) (nD s).toNat := rfl
  rw [hend]
  have hsD : (pk (pk (pk s 7).2 10).2 3).2 = sD s := rfl
  rw [hsD] at h3
  generalize hkk : kD s = kind at *
  generalize hss : sD s = s0 at *
  generalize hnn : nD s = n at *
  refine RC.ofc [b] 1 [.ptr 0 0 0] [(0, ⟨133, 3, false, [srR s]⟩)] (.agg [.v (.int .i64 n), .sl 1 0 (outD kind n (s0, []) n.toNat).2.length]) [(0, some ⟨133, 3, false, [srR (outD kind n (s0, []) n.toNat).1]⟩), (1, some ⟨56, 4, true, (outD kind n (s0, []) n.toNat).2.map lnL⟩)] Try.func132 Try.ntmps132 rfl (goFn_of Try.func132 rfl (by kernel_rfl)) rfl rfl rfl rfl rfl rfl rfl rfl (by simp_all) rfl ?_
  cases hc : ((pk (pk s 7).2 10).1 == 0)
  all_goals
    rw [hc] at hv
    simp only [if_true, Bool.false_eq_true, if_false] at hv
    ((repeat' (first
    | (show SQ _ _ _ _ _ _ _ _; first | apply sq_nil | (apply q_move; exact rfl; exact rfl) | (apply q_assign; exact rfl; exact rfl) | (apply q_add; exact rfl; exact rfl; exact rfl) | (apply q_build; exact rfl; exact (ty rfl); exact rfl; exact rfl; exact rfl))
    | (show SQ _ _ _ _ _ _ _ _; (first | (apply q_alloc; exact rfl; exact (ty rfl); exact rfl; exact rfl) | (apply q_store; exact rfl; exact rfl; exact (ty rfl); exact rfl; exact (by first | rfl | assumption | ((try simp only [Nat.zero_add]); refine List.getElem?_set_self ?_; (try simp only [List.length_set]); assumption)); exact rfl; exact rfl; exact rfl) | (apply q_build0; exact rfl; exact (ty rfl); exact rfl) | (apply q_callC; exact rfl; exact rfl; exact rfl; exact h1 _; (focus ((repeat (first | exact trivial | refine ⟨by first | exact rfl | assumption, ?_⟩)); done)); skip) | (apply q_callC; exact rfl; exact rfl; exact rfl; exact h2 _; (focus ((repeat (first | exact trivial | refine ⟨by first | exact rfl | assumption, ?_⟩)); done)); skip) | (apply q_callC; exact rfl; exact rfl; exact rfl; exact h3 _; (focus ((repeat (first | exact trivial | refine ⟨by first | exact rfl | assumption, ?_⟩)); done)); skip)); (try simp only [put, rowsOf, plR, List.all_cons, selE, ovr, setH, del, cellsA, splice, isV, List.nil_append, List.cons_append, List.map_cons, List.map_nil, List.length_cons, List.length_nil, List.set_cons_zero, List.set_cons_succ, List.take_succ_cons, List.take_zero, List.take_nil, List.drop_succ_cons, List.drop_zero, List.drop_nil, List.append_nil, List.all_cons, List.all_nil, Bool.and_true, Bool.true_and, Bool.and_false, Bool.false_and, Nat.reduceAdd, Nat.zero_add, Nat.add_zero, Nat.reduceEqDiff, if_true, if_false, reduceIte]))
    | (show AW _ _ _ _ _ _ _ _; first | refine aw_region ?_ | (refine aw_seqk ?_; intro K hK) | refine aw_block ?_ | (apply aw_cond_t; exact rfl; exact (by assumption)) | (apply aw_cond_f; exact rfl; exact (by assumption)) | refine aw_skip ?_)
    | refine thn_n ?_
    | (refine hK _ _ _ ?_; clear hK K))); all_goals (repeat (clear hK K)))
    rw [← hv]
    show AW _ _ 1 _ _ _ _ _
    refine aw_loop (ρ := fun z => z) (ι := Nat) (fun i => ([(6, .v (.int .i64 i)), (5, .v (.int .i64 kind)), (4, .ptr 3 0 0), (3, .v (.int .i64 n)), (2, .ptr 1 0 0), (0, .ptr 0 0 0)],
        [(0, ⟨133, 3, false, [srR (outD kind n (s0, []) i).1]⟩), (1, ⟨31, 2, false, [[.v (.int .i64 0), .v (.slice none 0 0)]]⟩), (2, ⟨56, 4, true, (outD kind n (s0, []) i).2.map lnL⟩), (3, ⟨31, 2, false, [[.v (.int .i64 n), .sl 2 0 (outD kind n (s0, []) i).2.length]]⟩)], 4))
      (fun i => i ≤ n.toNat) (fun i => n.toNat - i) 0 (Nat.zero_le _) ⟨by (repeat (refine ⟨by first | exact lk_i rfl rfl | exact lk_i rfl (by (try dsimp only); first | rfl | omega | (rw [IntWalk.i64_in _ (by omega)]; first | rfl | omega | (push_cast; omega)) | (simp; done) | (simp; omega)) | exact lk_r rfl rfl rfl, ?_⟩)); exact trivial, by (repeat (refine ⟨by first | exact ⟨rfl, rfl, rfl⟩, ?_⟩)); exact trivial, by rfl, by (intro i hi; (try dsimp only); refine ⟨?_, ?_⟩ <;> first | rfl | omega | (simp at hi; omega) | (simp; omega))⟩ ?_
    intro i hi
    have hO := outD_ok (kind := kind) (n := n) hnD.2 hst0 i
    have hO1 : outD kind n (s0, []) (i + 1) = inD kind i (outD kind n (s0, []) i) (n - ((i : Int) + 1)).toNat := rfl
    by_cases c1 : i < n.toNat
    · have b1 : decide ((i : Int) < n) = true := by simp; omega
      have hwi : IntKind.i64.wrap ((i : Int) + 1) = ((i + 1 : Nat) : Int) := by rw [IntWalk.i64_in _ (by omega)]; omega
      have hwi2 : IntKind.i64.wrap ((i : Int) + 1) = (i : Int) + 1 + ((0 : Nat) : Int) := by rw [IntWalk.i64_in _ (by omega)]; omega
      have hwi3 : IntKind.i64.wrap ((i : Int) + 1) = (i : Int) + 1 := IntWalk.i64_in _ (by omega)
      generalize outD kind n (s0, []) i = Z0 at *
      have hZ0 : DOk 202000 Z0 := hO.mono (by omega)
      ((repeat' (first
    | (show SQ _ _ _ _ _ _ _ _; first | apply sq_nil | (apply q_move; exact rfl; exact rfl) | (apply q_assign; exact rfl; exact rfl) | (apply q_add; exact rfl; exact rfl; exact rfl) | (apply q_lss; exact rfl; exact rfl; exact rfl))
    | (show AW _ _ _ _ _ _ _ _; first | refine aw_region ?_ | (refine aw_seqk ?_; intro K hK) | refine aw_block ?_ | (apply aw_cond_t; exact rfl; exact (by assumption)) | refine aw_skip ?_)
    | refine thn_n ?_
    | (refine hK _ _ _ ?_; clear hK K))); all_goals (repeat (clear hK K)))
      show AW _ _ 1 _ _ _ _ _
      refine aw_loop (ρ := fun z => z) (ι := Nat) (fun j => ([(7, .v (.int .i64 ((i : Int) + 1 + (j : Int)))), (6, .v (.int .i64 i)), (5, .v (.int .i64 kind)), (4, .ptr 3 0 0), (3, .v (.int .i64 n)), (2, .ptr 1 0 0), (0, .ptr 0 0 0)],
          [(0, ⟨133, 3, false, [srR (inD kind i Z0 j).1]⟩), (1, ⟨31, 2, false, [[.v (.int .i64 0), .v (.slice none 0 0)]]⟩), (2, ⟨56, 4, true, (inD kind i Z0 j).2.map lnL⟩), (3, ⟨31, 2, false, [[.v (.int .i64 n), .sl 2 0 (inD kind i Z0 j).2.length]]⟩)], 4))
        (fun j => j ≤ (n - ((i : Int) + 1)).toNat) (fun j => (n - ((i : Int) + 1)).toNat - j) 0 (Nat.zero_le _) ⟨by (repeat (refine ⟨by first | exact lk_i rfl rfl | exact lk_i rfl (by (try dsimp only); first | rfl | omega | (rw [IntWalk.i64_in _ (by omega)]; first | rfl | omega | (push_cast; omega)) | (simp; done) | (simp; omega)) | exact lk_r rfl rfl rfl, ?_⟩)); exact trivial, by (repeat (refine ⟨by first | exact ⟨rfl, rfl, rfl⟩, ?_⟩)); exact trivial, by rfl, by (intro i hi; (try dsimp only); refine ⟨?_, ?_⟩ <;> first | rfl | omega | (simp at hi; omega) | (simp; omega))⟩ ?_
      intro j hj
      have hI := inD_ok (kind := kind) (x := i) hZ0 j
      have hI1 : inD kind i Z0 (j + 1) = stepD kind i ((i : Int) + 1 + (j : Int)) (inD kind i Z0 j) := rfl
      by_cases c2 : j < (n - ((i : Int) + 1)).toNat
      · have b2 : decide (((i : Int) + 1 + (j : Int)) < n) = true := by simp; omega
        have hwj : IntKind.i64.wrap ((i : Int) + 1 + (j : Int) + 1) = (i : Int) + 1 + ((j + 1 : Nat) : Int) := by rw [IntWalk.i64_in _ (by omega)]; omega
        generalize inD kind i Z0 j = Z at *
        have hZ : DOk 203000 Z := hI.mono (by omega)
        obtain ⟨sz, L⟩ := Z
        have hL := hZ.le
        have hok := hZ.ok
        dsimp only at hL hok hI1 ⊢
        have p4 := pick_rc 0 sz 4 (hok.mono (by omega)) (by omega)
        have hok4 := pk_ok 4 hok
        have p6 := one_rc 0 (pk sz 4).2 6 (hok4.mono (by omega)) (by omega)
        have hok6 := pk_ok 6 hok4
        have hml : (L.map lnL).length = L.length := List.length_map _
        -- how a draw ends: with a link or without
        by_cases c3 : (pk sz 4).1 < kind
        · have b3 : decide ((pk sz 4).1 < kind) = true := by simpa using c3
          have e1 := onD_1 (kind := kind) (x := i) (y := (i : Int) + 1 + (j : Int)) c3
          by_cases c5 : L.length = 32
          · have b5 : ((L.length : Int) == 32) = true := by rw [c5]; rfl
            have e2 := stepD_no (st := (sz, L)) e1 (.inr c5)
            ((repeat' (first
    | (show SQ _ _ _ _ _ _ _ _; first | apply sq_nil | (apply q_move; exact rfl; exact rfl) | (apply q_assign; exact rfl; exact rfl) | (apply q_pick_t; exact rfl; exact rfl; exact rfl; exact (by first | assumption | exact rfl)) | (apply q_pick_f; exact rfl; exact rfl; exact rfl; exact (by first | assumption | exact rfl)) | (apply q_fieldAddr; exact rfl; exact rfl; exact (ty rfl); exact rfl; exact rfl; exact rfl; exact rfl) | (apply q_not; exact rfl; exact rfl) | (apply q_lenl; exact rfl; exact rfl; exact (ty rfl); exact rfl) | (apply q_add; exact rfl; exact rfl; exact rfl) | (apply q_eql; exact rfl; exact rfl; exact rfl) | (apply q_lss; exact rfl; exact rfl; exact rfl) | (apply q_ld1p; exact rfl; exact rfl; exact (ty rfl); exact rfl; exact rfl; exact (by first | rfl | assumption | ((try simp only [Nat.zero_add]); refine List.getElem?_set_self ?_; (try simp only [List.length_set]); assumption)); exact rfl) | (apply q_s; exact rfl; exact rfl; exact rfl; exact (by assumption); exact rfl) | (apply q_g; exact rfl; exact rfl; exact rfl; exact rfl) | (apply q_sU; exact rfl; exact rfl; exact rfl; exact rfl))
    | (show SQ _ _ _ _ _ _ _ _; (first | (apply q_callC; exact rfl; exact rfl; exact rfl; exact p4 _; (focus ((repeat (first | exact trivial | refine ⟨by first | exact rfl | assumption, ?_⟩)); done)); skip)); (try simp only [put, rowsOf, plR, List.all_cons, selE, ovr, setH, del, cellsA, splice, isV, List.nil_append, List.cons_append, List.map_cons, List.map_nil, List.length_cons, List.length_nil, List.set_cons_zero, List.set_cons_succ, List.take_succ_cons, List.take_zero, List.take_nil, List.drop_succ_cons, List.drop_zero, List.drop_nil, List.append_nil, List.all_cons, List.all_nil, Bool.and_true, Bool.true_and, Bool.and_false, Bool.false_and, Nat.reduceAdd, Nat.zero_add, Nat.add_zero, Nat.reduceEqDiff, if_true, if_false, reduceIte]))
    | (show AW _ _ _ _ _ _ _ _; first | refine aw_region ?_ | (refine aw_seqk ?_; intro K hK) | refine aw_block ?_ | (apply aw_cond_t; exact rfl; exact (by assumption)) | refine aw_exit ?_ | refine aw_skip ?_)
    | refine thn_n ?_
    | (refine hK _ _ _ ?_; clear hK K)
    | refine thn_e ?_
    | refine inb_same ?_
    | (clear hK K; refine hK _ _ _ ?_; clear hK K))); all_goals (repeat (clear hK K)))
            all_goals (refine ⟨j + 1, fun z => z, c2, by omega, ?_⟩; (try dsimp only); rw [hI1, e2, ← hwj]; exact ⟨by (repeat (refine ⟨by first | exact lk_i rfl rfl | exact lk_r rfl rfl rfl, ?_⟩)); exact trivial, by (repeat (refine ⟨by first | exact ⟨rfl, rfl, rfl⟩, ?_⟩)); exact trivial, by rfl, by (intro i hi; (try dsimp only); refine ⟨?_, ?_⟩ <;> first | rfl | omega | (simp at hi; omega) | (simp; omega))⟩)
          · have b5 : ((L.length : Int) == 32) = false := by simp; omega
            have e2 := stepD_yes (st := (sz, L)) e1 c5
            have a1 := among_rc 0 5 (pk sz 4).2 ws1 (by decide) (hok4.mono (by omega)) (by decide) (by decide)
            have hok1 := am_ok ws1 hok4
            have a2 := among_rc 0 6 (am ws1 (pk sz 4).2).2 ws2 (by decide) (hok1.mono (by omega)) (by decide) (by decide)
            generalize am ws1 (pk sz 4).2 = A1 at *
            generalize am ws2 A1.2 = A2 at *
            obtain ⟨o1, s1⟩ := A1
            obtain ⟨o2, s2⟩ := A2
            dsimp only at e2 a1 a2 ⊢
            simp only [nuR, ws1, ws2, List.map_cons, List.map_nil, List.length_cons, List.length_nil] at a1 a2
            ((repeat' (first
    | (show SQ _ _ _ _ _ _ _ _; first | apply sq_nil | (apply q_move; exact rfl; exact rfl) | (apply q_assign; exact rfl; exact rfl) | (apply q_pick_t; exact rfl; exact rfl; exact rfl; exact (by first | assumption | exact rfl)) | (apply q_pick_f; exact rfl; exact rfl; exact rfl; exact (by first | assumption | exact rfl)) | (apply q_fieldAddr; exact rfl; exact rfl; exact (ty rfl); exact rfl; exact rfl; exact rfl; exact rfl) | (apply q_not; exact rfl; exact rfl) | (apply q_lenl; exact rfl; exact rfl; exact (ty rfl); exact rfl) | (apply q_add; exact rfl; exact rfl; exact rfl) | (apply q_eql; exact rfl; exact rfl; exact rfl) | (apply q_lss; exact rfl; exact rfl; exact rfl) | (apply q_ld1p; exact rfl; exact rfl; exact (ty rfl); exact rfl; exact rfl; exact (by first | rfl | assumption | ((try simp only [Nat.zero_add]); refine List.getElem?_set_self ?_; (try simp only [List.length_set]); assumption)); exact rfl) | (apply q_build; exact rfl; exact (ty rfl); exact rfl; exact rfl; exact rfl) | (apply q_s; exact rfl; exact rfl; exact rfl; exact (by assumption); exact rfl) | (apply q_g; exact rfl; exact rfl; exact rfl; exact rfl) | (apply q_sU; exact rfl; exact rfl; exact rfl; exact rfl))
    | (show SQ _ _ _ _ _ _ _ _; (first | (apply q_ldap; exact rfl; exact rfl; exact (ty rfl); exact rfl; exact rfl; exact (by first | rfl | assumption | ((try simp only [Nat.zero_add]); refine List.getElem?_set_self ?_; (try simp only [List.length_set]); assumption)); exact rfl) | (apply q_alloc; exact rfl; exact (ty rfl); exact rfl; exact rfl) | (apply q_store; exact rfl; exact rfl; exact (ty rfl); exact rfl; exact (by first | rfl | assumption | ((try simp only [Nat.zero_add]); refine List.getElem?_set_self ?_; (try simp only [List.length_set]); assumption)); exact rfl; exact rfl; exact rfl) | (apply q_buildn; exact rfl; exact (ty rfl); exact rfl; exact rfl; exact rfl; exact rfl; exact rfl; exact rfl; exact rfl) | (apply q_apo_s; exact rfl; exact rfl; exact rfl; exact (ty rfl); exact rfl; exact rfl; exact (by first | omega | (simp; done) | (simp; omega)); exact (by first | exact List.take_of_length_le (by first | omega | (simp; done) | (simp; omega)) | rfl); exact (ty rfl); exact rfl; exact rfl; exact (by first | omega | (simp; done) | (simp; omega)); exact (by first | exact dt_full (by first | omega | (simp; done) | (simp; omega)) | assumption | rfl); exact rfl; exact (by first | omega | (simp; done) | (simp; omega)); exact (by first | omega | (simp; done) | (simp; omega)); exact (by first | assumption | exact rfl)) | (apply q_callC; exact rfl; exact rfl; exact rfl; exact p4 _; (focus ((repeat (first | exact trivial | refine ⟨by first | exact rfl | assumption, ?_⟩)); done)); skip) | (apply q_callC; exact rfl; exact rfl; exact rfl; exact a1 _; (focus ((repeat (first | exact trivial | refine ⟨by first | exact rfl | assumption, ?_⟩)); done)); skip) | (apply q_callC; exact rfl; exact rfl; exact rfl; exact a2 _; (focus ((repeat (first | exact trivial | refine ⟨by first | exact rfl | assumption, ?_⟩)); done)); skip)); (try simp only [put, rowsOf, plR, List.all_cons, selE, ovr, setH, del, cellsA, splice, isV, List.nil_append, List.cons_append, List.map_cons, List.map_nil, List.length_cons, List.length_nil, List.set_cons_zero, List.set_cons_succ, List.take_succ_cons, List.take_zero, List.take_nil, List.drop_succ_cons, List.drop_zero, List.drop_nil, List.append_nil, List.all_cons, List.all_nil, Bool.and_true, Bool.true_and, Bool.and_false, Bool.false_and, Nat.reduceAdd, Nat.zero_add, Nat.add_zero, Nat.reduceEqDiff, if_true, if_false, reduceIte]))
    | (show AW _ _ _ _ _ _ _ _; first | refine aw_region ?_ | (refine aw_seqk ?_; intro K hK) | refine aw_block ?_ | (apply aw_cond_t; exact rfl; exact (by assumption)) | (apply aw_cond_f; exact rfl; exact (by assumption)) | refine aw_skip ?_)
    | refine thn_n ?_
    | (refine hK _ _ _ ?_; clear hK K)
    | refine inb_n ?_)); all_goals (repeat (clear hK K)))
            all_goals (refine ⟨j + 1, fun z => if z = 2 then 8 else z, c2, by omega, ?_⟩; (try dsimp only); rw [hI1, e2, ← hwj]; (try dsimp only); rw [List.map_append, List.length_append]; exact ⟨by (repeat (refine ⟨by first | exact lk_i rfl rfl | exact lk_r rfl rfl rfl, ?_⟩)); exact trivial, by (repeat (refine ⟨by first | exact ⟨rfl, rfl, rfl⟩, ?_⟩)); exact trivial, by rfl, by (intro i hi; (try dsimp only); refine ⟨?_, ?_⟩ <;> first | rfl | omega | (simp at hi; omega) | (simp; omega))⟩)
        · have b3 : decide ((pk sz 4).1 < kind) = false := by simpa using c3
          by_cases c4 : (i : Int) + 1 + (j : Int) = (i : Int) + 1
          · have b4 : ((i : Int) + 1 + (j : Int) == IntKind.i64.wrap ((i : Int) + 1)) = true := by rw [hwi3]; simpa using c4
            have e1 := onD_2 (kind := kind) (x := i) (y := (i : Int) + 1 + (j : Int)) c3 c4
            cases c6 : ((pk (pk sz 4).2 6).1 == 0) with
            | true =>
              have b6 : (!((pk (pk sz 4).2 6).1 == 0)) = false := by rw [c6]; rfl
              have b7 : (!(!((pk (pk sz 4).2 6).1 == 0))) = true := by rw [c6]; rfl
              rw [b6] at e1
              have e2 := stepD_no (st := (sz, L)) e1 (.inl rfl)
              ((repeat' (first
    | (show SQ _ _ _ _ _ _ _ _; first | apply sq_nil | (apply q_move; exact rfl; exact rfl) | (apply q_assign; exact rfl; exact rfl) | (apply q_pick_t; exact rfl; exact rfl; exact rfl; exact (by first | assumption | exact rfl)) | (apply q_pick_f; exact rfl; exact rfl; exact rfl; exact (by first | assumption | exact rfl)) | (apply q_not; exact rfl; exact rfl) | (apply q_add; exact rfl; exact rfl; exact rfl) | (apply q_eql; exact rfl; exact rfl; exact rfl) | (apply q_lss; exact rfl; exact rfl; exact rfl) | (apply q_g; exact rfl; exact rfl; exact rfl; exact (by assumption)) | (apply q_s; exact rfl; exact rfl; exact rfl; exact (by assumption); exact rfl))
    | (show SQ _ _ _ _ _ _ _ _; (first | (apply q_callC; exact rfl; exact rfl; exact rfl; exact p4 _; (focus ((repeat (first | exact trivial | refine ⟨by first | exact rfl | assumption, ?_⟩)); done)); skip) | (apply q_callC; exact rfl; exact rfl; exact rfl; exact p6 _; (focus ((repeat (first | exact trivial | refine ⟨by first | exact rfl | assumption, ?_⟩)); done)); skip)); (try simp only [put, rowsOf, plR, List.all_cons, selE, ovr, setH, del, cellsA, splice, isV, List.nil_append, List.cons_append, List.map_cons, List.map_nil, List.length_cons, List.length_nil, List.set_cons_zero, List.set_cons_succ, List.take_succ_cons, List.take_zero, List.take_nil, List.drop_succ_cons, List.drop_zero, List.drop_nil, List.append_nil, List.all_cons, List.all_nil, Bool.and_true, Bool.true_and, Bool.and_false, Bool.false_and, Nat.reduceAdd, Nat.zero_add, Nat.add_zero, Nat.reduceEqDiff, if_true, if_false, reduceIte]))
    | (show AW _ _ _ _ _ _ _ _; first | refine aw_region ?_ | (refine aw_seqk ?_; intro K hK) | refine aw_block ?_ | (apply aw_cond_t; exact rfl; exact rfl) | (apply aw_cond_t; exact rfl; exact (by assumption)) | refine aw_exit ?_ | refine aw_skip ?_)
    | refine thn_n ?_
    | (refine hK _ _ _ ?_; clear hK K)
    | refine thn_e ?_
    | refine inb_same ?_
    | (clear hK K; refine hK _ _ _ ?_; clear hK K))); all_goals (repeat (clear hK K)))
              all_goals (refine ⟨j + 1, fun z => z, c2, by omega, ?_⟩; (try dsimp only); rw [hI1, e2, ← hwj]; exact ⟨by (repeat (refine ⟨by first | exact lk_i rfl rfl | exact lk_r rfl rfl rfl, ?_⟩)); exact trivial, by (repeat (refine ⟨by first | exact ⟨rfl, rfl, rfl⟩, ?_⟩)); exact trivial, by rfl, by (intro i hi; (try dsimp only); refine ⟨?_, ?_⟩ <;> first | rfl | omega | (simp at hi; omega) | (simp; omega))⟩)
            | false =>
              have b6 : (!((pk (pk sz 4).2 6).1 == 0)) = true := by rw [c6]; rfl
              have b7 : (!(!((pk (pk sz 4).2 6).1 == 0))) = false := by rw [c6]; rfl
              rw [b6] at e1
              by_cases c5 : L.length = 32
              · have b5 : ((L.length : Int) == 32) = true := by rw [c5]; rfl
                have e2 := stepD_no (st := (sz, L)) e1 (.inr c5)
                ((repeat' (first
    | (show SQ _ _ _ _ _ _ _ _; first | apply sq_nil | (apply q_move; exact rfl; exact rfl) | (apply q_assign; exact rfl; exact rfl) | (apply q_pick_t; exact rfl; exact rfl; exact rfl; exact (by first | assumption | exact rfl)) | (apply q_pick_f; exact rfl; exact rfl; exact rfl; exact (by first | assumption | exact rfl)) | (apply q_fieldAddr; exact rfl; exact rfl; exact (ty rfl); exact rfl; exact rfl; exact rfl; exact rfl) | (apply q_not; exact rfl; exact rfl) | (apply q_lenl; exact rfl; exact rfl; exact (ty rfl); exact rfl) | (apply q_add; exact rfl; exact rfl; exact rfl) | (apply q_eql; exact rfl; exact rfl; exact rfl) | (apply q_lss; exact rfl; exact rfl; exact rfl) | (apply q_ld1p; exact rfl; exact rfl; exact (ty rfl); exact rfl; exact rfl; exact (by first | rfl | assumption | ((try simp only [Nat.zero_add]); refine List.getElem?_set_self ?_; (try simp only [List.length_set]); assumption)); exact rfl) | (apply q_g; exact rfl; exact rfl; exact rfl; exact (by assumption)))
    | (show SQ _ _ _ _ _ _ _ _; (first | (apply q_callC; exact rfl; exact rfl; exact rfl; exact p4 _; (focus ((repeat (first | exact trivial | refine ⟨by first | exact rfl | assumption, ?_⟩)); done)); skip) | (apply q_callC; exact rfl; exact rfl; exact rfl; exact p6 _; (focus ((repeat (first | exact trivial | refine ⟨by first | exact rfl | assumption, ?_⟩)); done)); skip)); (try simp only [put, rowsOf, plR, List.all_cons, selE, ovr, setH, del, cellsA, splice, isV, List.nil_append, List.cons_append, List.map_cons, List.map_nil, List.length_cons, List.length_nil, List.set_cons_zero, List.set_cons_succ, List.take_succ_cons, List.take_zero, List.take_nil, List.drop_succ_cons, List.drop_zero, List.drop_nil, List.append_nil, List.all_cons, List.all_nil, Bool.and_true, Bool.true_and, Bool.and_false, Bool.false_and, Nat.reduceAdd, Nat.zero_add, Nat.add_zero, Nat.reduceEqDiff, if_true, if_false, reduceIte]))
    | (show AW _ _ _ _ _ _ _ _; first | refine aw_region ?_ | (refine aw_seqk ?_; intro K hK) | refine aw_block ?_ | (apply aw_cond_t; exact rfl; exact (by assumption)) | refine aw_exit ?_ | refine aw_skip ?_)
    | refine thn_n ?_
    | (refine hK _ _ _ ?_; clear hK K)
    | refine thn_e ?_
    | refine inb_same ?_
    | (clear hK K; refine hK _ _ _ ?_; clear hK K))); all_goals (repeat (clear hK K)))
                all_goals (refine ⟨j + 1, fun z => z, c2, by omega, ?_⟩; (try dsimp only); rw [hI1, e2, ← hwj]; exact ⟨by (repeat (refine ⟨by first | exact lk_i rfl rfl | exact lk_r rfl rfl rfl, ?_⟩)); exact trivial, by (repeat (refine ⟨by first | exact ⟨rfl, rfl, rfl⟩, ?_⟩)); exact trivial, by rfl, by (intro i hi; (try dsimp only); refine ⟨?_, ?_⟩ <;> first | rfl | omega | (simp at hi; omega) | (simp; omega))⟩)
              · have b5 : ((L.length : Int) == 32) = false := by simp; omega
                have e2 := stepD_yes (st := (sz, L)) e1 c5
                have a1 := among_rc 0 5 (pk (pk sz 4).2 6).2 ws1 (by decide) (hok6.mono (by omega)) (by decide) (by decide)
                have hok1 := am_ok ws1 hok6
                have a2 := among_rc 0 6 (am ws1 (pk (pk sz 4).2 6).2).2 ws2 (by decide) (hok1.mono (by omega)) (by decide) (by decide)
                generalize am ws1 (pk (pk sz 4).2 6).2 = A1 at *
                generalize am ws2 A1.2 = A2 at *
                obtain ⟨o1, s1⟩ := A1
                obtain ⟨o2, s2⟩ := A2
                dsimp only at e2 a1 a2 ⊢
                simp only [nuR, ws1, ws2, List.map_cons, List.map_nil, List.length_cons, List.length_nil] at a1 a2
                ((repeat' (first
    | (show SQ _ _ _ _ _ _ _ _; first | apply sq_nil | (apply q_move; exact rfl; exact rfl) | (apply q_assign; exact rfl; exact rfl) | (apply q_pick_t; exact rfl; exact rfl; exact rfl; exact (by first | assumption | exact rfl)) | (apply q_pick_f; exact rfl; exact rfl; exact rfl; exact (by first | assumption | exact rfl)) | (apply q_fieldAddr; exact rfl; exact rfl; exact (ty rfl); exact rfl; exact rfl; exact rfl; exact rfl) | (apply q_not; exact rfl; exact rfl) | (apply q_lenl; exact rfl; exact rfl; exact (ty rfl); exact rfl) | (apply q_add; exact rfl; exact rfl; exact rfl) | (apply q_eql; exact rfl; exact rfl; exact rfl) | (apply q_lss; exact rfl; exact rfl; exact rfl) | (apply q_ld1p; exact rfl; exact rfl; exact (ty rfl); exact rfl; exact rfl; exact (by first | rfl | assumption | ((try simp only [Nat.zero_add]); refine List.getElem?_set_self ?_; (try simp only [List.length_set]); assumption)); exact rfl) | (apply q_build; exact rfl; exact (ty rfl); exact rfl; exact rfl; exact rfl) | (apply q_g; exact rfl; exact rfl; exact rfl; exact (by assumption)))
    | (show SQ _ _ _ _ _ _ _ _; (first | (apply q_ldap; exact rfl; exact rfl; exact (ty rfl); exact rfl; exact rfl; exact (by first | rfl | assumption | ((try simp only [Nat.zero_add]); refine List.getElem?_set_self ?_; (try simp only [List.length_set]); assumption)); exact rfl) | (apply q_alloc; exact rfl; exact (ty rfl); exact rfl; exact rfl) | (apply q_store; exact rfl; exact rfl; exact (ty rfl); exact rfl; exact (by first | rfl | assumption | ((try simp only [Nat.zero_add]); refine List.getElem?_set_self ?_; (try simp only [List.length_set]); assumption)); exact rfl; exact rfl; exact rfl) | (apply q_buildn; exact rfl; exact (ty rfl); exact rfl; exact rfl; exact rfl; exact rfl; exact rfl; exact rfl; exact rfl) | (apply q_apo_s; exact rfl; exact rfl; exact rfl; exact (ty rfl); exact rfl; exact rfl; exact (by first | omega | (simp; done) | (simp; omega)); exact (by first | exact List.take_of_length_le (by first | omega | (simp; done) | (simp; omega)) | rfl); exact (ty rfl); exact rfl; exact rfl; exact (by first | omega | (simp; done) | (simp; omega)); exact (by first | exact dt_full (by first | omega | (simp; done) | (simp; omega)) | assumption | rfl); exact rfl; exact (by first | omega | (simp; done) | (simp; omega)); exact (by first | omega | (simp; done) | (simp; omega)); exact (by first | assumption | exact rfl)) | (apply q_callC; exact rfl; exact rfl; exact rfl; exact p4 _; (focus ((repeat (first | exact trivial | refine ⟨by first | exact rfl | assumption, ?_⟩)); done)); skip) | (apply q_callC; exact rfl; exact rfl; exact rfl; exact p6 _; (focus ((repeat (first | exact trivial | refine ⟨by first | exact rfl | assumption, ?_⟩)); done)); skip) | (apply q_callC; exact rfl; exact rfl; exact rfl; exact a1 _; (focus ((repeat (first | exact trivial | refine ⟨by first | exact rfl | assumption, ?_⟩)); done)); skip) | (apply q_callC; exact rfl; exact rfl; exact rfl; exact a2 _; (focus ((repeat (first | exact trivial | refine ⟨by first | exact rfl | assumption, ?_⟩)); done)); skip)); (try simp only [put, rowsOf, plR, List.all_cons, selE, ovr, setH, del, cellsA, splice, isV, List.nil_append, List.cons_append, List.map_cons, List.map_nil, List.length_cons, List.length_nil, List.set_cons_zero, List.set_cons_succ, List.take_succ_cons, List.take_zero, List.take_nil, List.drop_succ_cons, List.drop_zero, List.drop_nil, List.append_nil, List.all_cons, List.all_nil, Bool.and_true, Bool.true_and, Bool.and_false, Bool.false_and, Nat.reduceAdd, Nat.zero_add, Nat.add_zero, Nat.reduceEqDiff, if_true, if_false, reduceIte]))
    | (show AW _ _ _ _ _ _ _ _; first | refine aw_region ?_ | (refine aw_seqk ?_; intro K hK) | refine aw_block ?_ | (apply aw_cond_t; exact rfl; exact (by assumption)) | (apply aw_cond_f; exact rfl; exact (by assumption)) | refine aw_skip ?_)
    | refine thn_n ?_
    | (refine hK _ _ _ ?_; clear hK K)
    | refine inb_n ?_)); all_goals (repeat (clear hK K)))
                all_goals (refine ⟨j + 1, fun z => if z = 2 then 8 else z, c2, by omega, ?_⟩; (try dsimp only); rw [hI1, e2, ← hwj]; (try dsimp only); rw [List.map_append, List.length_append]; exact ⟨by (repeat (refine ⟨by first | exact lk_i rfl rfl | exact lk_r rfl rfl rfl, ?_⟩)); exact trivial, by (repeat (refine ⟨by first | exact ⟨rfl, rfl, rfl⟩, ?_⟩)); exact trivial, by rfl, by (intro i hi; (try dsimp only); refine ⟨?_, ?_⟩ <;> first | rfl | omega | (simp at hi; omega) | (simp; omega))⟩)
          · have b4 : ((i : Int) + 1 + (j : Int) == IntKind.i64.wrap ((i : Int) + 1)) = false := by rw [hwi3]; simpa using c4
            have e1 := onD_3 (kind := kind) (x := i) (y := (i : Int) + 1 + (j : Int)) c3 c4
            have e2 := stepD_no (st := (sz, L)) e1 (.inl rfl)
            ((repeat' (first
    | (show SQ _ _ _ _ _ _ _ _; first | apply sq_nil | (apply q_move; exact rfl; exact rfl) | (apply q_assign; exact rfl; exact rfl) | (apply q_pick_t; exact rfl; exact rfl; exact rfl; exact (by first | assumption | exact rfl)) | (apply q_pick_f; exact rfl; exact rfl; exact rfl; exact (by first | assumption | exact rfl)) | (apply q_not; exact rfl; exact rfl) | (apply q_add; exact rfl; exact rfl; exact rfl) | (apply q_eql; exact rfl; exact rfl; exact rfl) | (apply q_lss; exact rfl; exact rfl; exact rfl) | (apply q_g; exact rfl; exact rfl; exact rfl; exact (by assumption)) | (apply q_s; exact rfl; exact rfl; exact rfl; exact (by assumption); exact rfl) | (apply q_s; exact rfl; exact rfl; exact rfl; exact rfl; exact rfl))
    | (show SQ _ _ _ _ _ _ _ _; (first | (apply q_callC; exact rfl; exact rfl; exact rfl; exact p4 _; (focus ((repeat (first | exact trivial | refine ⟨by first | exact rfl | assumption, ?_⟩)); done)); skip)); (try simp only [put, rowsOf, plR, List.all_cons, selE, ovr, setH, del, cellsA, splice, isV, List.nil_append, List.cons_append, List.map_cons, List.map_nil, List.length_cons, List.length_nil, List.set_cons_zero, List.set_cons_succ, List.take_succ_cons, List.take_zero, List.take_nil, List.drop_succ_cons, List.drop_zero, List.drop_nil, List.append_nil, List.all_cons, List.all_nil, Bool.and_true, Bool.true_and, Bool.and_false, Bool.false_and, Nat.reduceAdd, Nat.zero_add, Nat.add_zero, Nat.reduceEqDiff, if_true, if_false, reduceIte]))
    | (show AW _ _ _ _ _ _ _ _; first | refine aw_region ?_ | (refine aw_seqk ?_; intro K hK) | refine aw_block ?_ | (apply aw_cond_t; exact rfl; exact rfl) | (apply aw_cond_t; exact rfl; exact (by assumption)) | refine aw_exit ?_ | refine aw_skip ?_)
    | refine thn_n ?_
    | (refine hK _ _ _ ?_; clear hK K)
    | refine thn_e ?_
    | refine inb_same ?_
    | (clear hK K; refine hK _ _ _ ?_; clear hK K))); all_goals (repeat (clear hK K)))
            all_goals (refine ⟨j + 1, fun z => z, c2, by omega, ?_⟩; (try dsimp only); rw [hI1, e2, ← hwj]; exact ⟨by (repeat (refine ⟨by first | exact lk_i rfl rfl | exact lk_r rfl rfl rfl, ?_⟩)); exact trivial, by (repeat (refine ⟨by first | exact ⟨rfl, rfl, rfl⟩, ?_⟩)); exact trivial, by rfl, by (intro i hi; (try dsimp only); refine ⟨?_, ?_⟩ <;> first | rfl | omega | (simp at hi; omega) | (simp; omega))⟩)
      · have b2 : decide (((i : Int) + 1 + (j : Int)) < n) = false := by simp; omega
        obtain rfl : j = (n - ((i : Int) + 1)).toNat := by omega
        ((repeat' (first
    | (show SQ _ _ _ _ _ _ _ _; first | apply sq_nil | (apply q_move; exact rfl; exact rfl) | (apply q_assign; exact rfl; exact rfl) | (apply q_add; exact rfl; exact rfl; exact rfl) | (apply q_lss; exact rfl; exact rfl; exact rfl))
    | (show AW _ _ _ _ _ _ _ _; first | refine aw_region ?_ | (refine aw_seqk ?_; intro K hK) | (apply aw_cond_f; exact rfl; exact (by assumption)) | refine aw_exit ?_)
    | refine thn_n ?_
    | (refine hK _ _ _ ?_; clear hK K)
    | refine thn_e ?_
    | refine inb_same ?_
    | refine inb_n ?_
    | (clear hK K; refine hK _ _ _ ?_; clear hK K))); all_goals (repeat (clear hK K)))
        all_goals (refine ⟨i + 1, fun z => z, c1, by omega, ?_⟩; (try dsimp only); rw [hO1, ← hwi]; exact ⟨by (repeat (refine ⟨by first | exact lk_i rfl rfl | exact lk_r rfl rfl rfl, ?_⟩)); exact trivial, by (repeat (refine ⟨by first | exact ⟨rfl, rfl, rfl⟩, ?_⟩)); exact trivial, by rfl, by (intro i hi; (try dsimp only); refine ⟨?_, ?_⟩ <;> first | rfl | omega | (simp at hi; omega) | (simp; omega))⟩)
    · have b1 : decide ((i : Int) < n) = false := by simp; omega
      obtain rfl : i = n.toNat := by omega
      ((repeat' (first
    | (show SQ _ _ _ _ _ _ _ _; first | apply sq_nil | (apply q_move; exact rfl; exact rfl) | (apply q_lss; exact rfl; exact rfl; exact rfl))
    | (show SQ _ _ _ _ _ _ _ _; (first | (apply q_ldap; exact rfl; exact rfl; exact (ty rfl); exact rfl; exact rfl; exact (by first | rfl | assumption | ((try simp only [Nat.zero_add]); refine List.getElem?_set_self ?_; (try simp only [List.length_set]); assumption)); exact rfl) | (apply q_store; exact rfl; exact rfl; exact (ty rfl); exact rfl; exact (by first | rfl | assumption | ((try simp only [Nat.zero_add]); refine List.getElem?_set_self ?_; (try simp only [List.length_set]); assumption)); exact rfl; exact rfl; exact rfl)); (try simp only [put, rowsOf, plR, List.all_cons, selE, ovr, setH, del, cellsA, splice, isV, List.nil_append, List.cons_append, List.map_cons, List.map_nil, List.length_cons, List.length_nil, List.set_cons_zero, List.set_cons_succ, List.take_succ_cons, List.take_zero, List.take_nil, List.drop_succ_cons, List.drop_zero, List.drop_nil, List.append_nil, List.all_cons, List.all_nil, Bool.and_true, Bool.true_and, Bool.and_false, Bool.false_and, Nat.reduceAdd, Nat.zero_add, Nat.add_zero, Nat.reduceEqDiff, if_true, if_false, reduceIte]))
    | (show AW _ _ _ _ _ _ _ _; first | refine aw_region ?_ | (refine aw_seqk ?_; intro K hK) | (apply aw_cond_f; exact rfl; exact (by assumption)) | refine aw_ret ?_ | refine aw_exit ?_)
    | refine thn_n ?_
    | (refine hK _ _ _ ?_; clear hK K)
    | refine thn_e ?_
    | refine inb_same ?_
    | (clear hK K; refine hK _ _ _ ?_; clear hK K))); all_goals (repeat (clear hK K)))
      all_goals exact finc (fun z => if z = 1 then 2 else z) (.r1 _ _ (.agg _ _ _ _ _ rfl (.inr ⟨_, _, _, _, _, rfl, rfl, rfl, rfl⟩) (ty rfl) rfl (Nat.le_of_ble_eq_true rfl))) rfl (fun z hz => by simp at hz; simp; omega) ⟨rfl, rfl, trivial⟩ rfl
end Go.Proofs.Ytglfcaioapdiaaa.Bk

namespace Go.Proofs.Ytglfcaioapdiaaa.Bk
open Go Go.RowKit Go.Proofs.Ytglfcaioapdiaaa.Aw Go.Proofs.Ytglfcaioapdiaaa.Sr
set_option linter.unusedSimpArgs false
set_option linter.unusedVariables false
attribute [local irreducible] AW SQ Step RO RC DE Thn InB
theorem am_mem {s : Sr} {ws : List Int} (h : 1 ≤ ws.length) : (am ws s).1 ∈ ws := by
  have hp := pk_bd s ws.length (by omega)
  have hl : (pk s ws.length).1.toNat < ws.length := by omega
  unfold am
  dsimp only
  rw [List.getD_eq_getElem?_getD, List.getElem?_eq_getElem hl]
  exact List.getElem_mem _
structure Bd (s : Sr) (k n : Int) (ls : List Ln) (s' : Sr) : Prop where
  nb : n ≤ 100
  le : ls.length ≤ 32
  ok : s'.ok (k + 2100)
  rc : ∀ j id, RC Try.prog 113 [.ptr id 0 0] [(id, ⟨133, 3, false, [srR s]⟩)] j (.agg [.v (.int .i64 n), .sl j 0 ls.length]) [(id, some ⟨133, 3, false, [srR s']⟩), (j, some ⟨56, 4, true, ls.map lnL⟩)] (j + 1)
theorem l25Draw_ex {s : Sr} {k : Int} (h : s.ok k) (hk : k ≤ 90000) : ∃ n ls s', Bd s k n ls s' := by
  have h1 := fun id => l25DrawOk_rc id s (h.mono (by omega))
  have hD := drD_ok h
  have hn := nD_in s
  generalize nD s = n at *
  generalize drD s = Z at *
  obtain ⟨s1, ls⟩ := Z
  have hL := hD.le
  have hok := hD.ok
  dsimp only at h1 hL hok
  have h2 := fun id => pick_rc id s1 18 (hok.mono (by omega)) (by omega)
  have hok2 := pk_ok 18 hok
  have bd2 := pk_bd s1 18 (by omega)
  generalize pk s1 18 = P at *
  obtain ⟨p, s2⟩ := P
  dsimp only at h2 hok2 bd2
  have hml : (ls.map lnL).length = ls.length := List.length_map _
  have plain : (∀ j id, RC Try.prog 113 [.ptr id 0 0] [(id, ⟨133, 3, false, [srR s]⟩)] j (.agg [.v (.int .i64 n), .sl j 0 ls.length]) [(id, some ⟨133, 3, false, [srR s2]⟩), (j, some ⟨56, 4, true, ls.map lnL⟩)] (j + 1)) → ∃ n ls s', Bd s k n ls s' := fun hh => ⟨n, ls, s2, by omega, hL, hok2.mono (by omega), hh⟩
  by_cases c0 : p = 0
  · subst c0
    have b0 : ((0 : Int) == 0) = true := rfl
    have a1 := among_rc 0 4 s2 [0, 13, IntKind.i64.wrap (n - 1)] (by decide) (hok2.mono (by omega)) (by simp) (by simp)
    have hok3 := am_ok [0, 13, IntKind.i64.wrap (n - 1)] hok2
    have hm := am_mem (s := s2) (ws := [0, 13, IntKind.i64.wrap (n - 1)]) (by simp)
    have hwn : IntKind.i64.wrap (n - 1) = n - 1 := IntWalk.i64_in _ (by omega)
    generalize am [0, 13, IntKind.i64.wrap (n - 1)] s2 = A at *
    obtain ⟨v, s3⟩ := A
    dsimp only at a1 hok3 hm
    have hv : v ≤ 100 := by
      simp only [List.mem_cons, List.not_mem_nil, or_false, hwn] at hm
      omega
    simp only [nuR, List.map_cons, List.map_nil, List.length_cons, List.length_nil] at a1
    refine ⟨v, ls, s3, hv, hL, hok3.mono (by omega), fun j id => ?_⟩
    refine RC.ofc [id] 1 [.ptr 0 0 0] [(0, ⟨133, 3, false, [srR s]⟩)] (.agg [.v (.int .i64 v), .sl 1 0 ls.length]) [(0, some ⟨133, 3, false, [srR s3]⟩), (1, some ⟨56, 4, true, ls.map lnL⟩)] Try.func113 Try.ntmps113 rfl (goFn_of Try.func113 rfl (by kernel_rfl)) rfl rfl rfl rfl rfl rfl rfl rfl (by simp_all) rfl ?_
    ((repeat' (first
    | (show SQ _ _ _ _ _ _ _ _; first | apply sq_nil | (apply q_move; exact rfl; exact rfl) | (apply q_assign; exact rfl; exact rfl) | (apply q_fieldAddr; exact rfl; exact rfl; exact (ty rfl); exact rfl; exact rfl; exact rfl; exact rfl) | (apply q_lenl; exact rfl; exact rfl; exact (ty rfl); exact rfl) | (apply q_sub; exact rfl; exact rfl; exact rfl) | (apply q_eql; exact rfl; exact rfl; exact rfl) | (apply q_ld1p; exact rfl; exact rfl; exact (ty rfl); exact rfl; exact rfl; exact (by first | rfl | assumption | ((try simp only [Nat.zero_add]); refine List.getElem?_set_self ?_; (try simp only [List.length_set]); assumption)); exact rfl))
    | (show SQ _ _ _ _ _ _ _ _; (first | (apply q_ldap; exact rfl; exact rfl; exact (ty rfl); exact rfl; exact rfl; exact (by first | rfl | assumption | ((try simp only [Nat.zero_add]); refine List.getElem?_set_self ?_; (try simp only [List.length_set]); assumption)); exact rfl) | (apply q_alloc; exact rfl; exact (ty rfl); exact rfl; exact rfl) | (apply q_store; exact rfl; exact rfl; exact (ty rfl); exact rfl; exact (by first | rfl | assumption | ((try simp only [Nat.zero_add]); refine List.getElem?_set_self ?_; (try simp only [List.length_set]); assumption)); exact rfl; exact rfl; exact rfl) | (apply q_buildn; exact rfl; exact (ty rfl); exact rfl; exact rfl; exact rfl; exact rfl; exact rfl; exact rfl; exact rfl) | (apply q_callC; exact rfl; exact rfl; exact rfl; exact h1 0 _; (focus ((repeat (first | exact trivial | refine ⟨by first | exact rfl | assumption, ?_⟩)); done)); skip) | (apply q_callC; exact rfl; exact rfl; exact rfl; exact h2 0 _; (focus ((repeat (first | exact trivial | refine ⟨by first | exact rfl | assumption, ?_⟩)); done)); skip) | (apply q_callC; exact rfl; exact rfl; exact rfl; exact a1 _; (focus ((repeat (first | exact trivial | refine ⟨by first | exact rfl | assumption, ?_⟩)); done)); skip)); (try simp only [put, rowsOf, plR, List.all_cons, selE, ovr, setH, del, cellsA, splice, isV, List.nil_append, List.cons_append, List.map_cons, List.map_nil, List.length_cons, List.length_nil, List.set_cons_zero, List.set_cons_succ, List.take_succ_cons, List.take_zero, List.take_nil, List.drop_succ_cons, List.drop_zero, List.drop_nil, List.append_nil, List.all_cons, List.all_nil, Bool.and_true, Bool.true_and, Bool.and_false, Bool.false_and, Nat.reduceAdd, Nat.zero_add, Nat.add_zero, Nat.reduceEqDiff, if_true, if_false, reduceIte]))
    | (show AW _ _ _ _ _ _ _ _; first | refine aw_region ?_ | (refine aw_seqk ?_; intro K hK) | refine aw_block ?_ | (apply aw_cond_t; exact rfl; exact rfl) | refine aw_ret ?_)
    | refine thn_n ?_
    | (refine hK _ _ _ ?_; clear hK K)
    | refine inb_n ?_)); all_goals (repeat (clear hK K)))
    exact finc (fun z => if z = 1 then 2 else z) (.r1 _ _ (.agg _ _ _ _ _ rfl (.inr ⟨_, _, _, _, _, rfl, rfl, rfl, rfl⟩) (ty rfl) rfl (Nat.le_of_ble_eq_true rfl))) rfl (fun z hz => by simp at hz; simp; omega) ⟨rfl, rfl, trivial⟩ rfl
  by_cases c1 : p = 1
  · subst c1
    have b0 : ((1 : Int) == 0) = false := rfl
    have b1 : ((1 : Int) == 1) = true := rfl
    by_cases d : 0 < ls.length
    · have b5 : decide ((0 : Int) < (ls.length : Int)) = true := by simpa using d
      have g2 := fun id => pick_rc id s2 (ls.length : Int) (hok2.mono (by omega)) (by omega)
      have hok3 := pk_ok (ls.length : Int) hok2
      have bd3 := pk_bd s2 (ls.length : Int) (by omega)
      generalize pk s2 (ls.length : Int) = Q at *
      obtain ⟨q, s3⟩ := Q
      dsimp only at g2 hok3 bd3
      obtain ⟨q, rfl⟩ := Int.eq_ofNat_of_zero_le bd3.1
      have hq : q < ls.length := by omega
      have hrow2 : (ls.map lnL)[0 + ((q : Int)).toNat]? = some (lnL ls[q]) := by simp [hq]
      have hrow3 : (ls.map lnL)[((q : Int)).toNat]? = some (lnL ls[q]) := by simp [hq]
      rw [lnL_eq] at hrow2 hrow3
      have hlen2 : ((q : Int)).toNat < (ls.map lnL).length := by simpa using hq
      have a1 := among_rc 0 4 s3 [-1, 1000000, 1000001] (by decide) (hok3.mono (by omega)) (by simp) (by simp)
      have hok4 := am_ok [-1, 1000000, 1000001] hok3
      generalize am [-1, 1000000, 1000001] s3 = A at *
      obtain ⟨v, s4⟩ := A
      dsimp only at a1 hok4
      simp only [nuR, List.map_cons, List.map_nil, List.length_cons, List.length_nil] at a1
      have hset : (ls.set q ⟨ls[q].a, ls[q].b, v, ls[q].c⟩).map lnL = (ls.map lnL).set q (lnL ⟨ls[q].a, ls[q].b, v, ls[q].c⟩) := List.map_set
      rw [lnL_eq] at hset
      dsimp only at hset
      refine ⟨n, ls.set q ⟨ls[q].a, ls[q].b, v, ls[q].c⟩, s4, by omega, by simpa using hL, hok4.mono (by omega), fun j id => ?_⟩
      rw [List.length_set, hset]
      refine RC.ofc [id] 1 [.ptr 0 0 0] [(0, ⟨133, 3, false, [srR s]⟩)] (.agg [.v (.int .i64 n), .sl 1 0 ls.length]) [(0, some ⟨133, 3, false, [srR s4]⟩), (1, some ⟨56, 4, true, (ls.map lnL).set q [.v (.int .i64 ls[q].a), .v (.int .i64 ls[q].b), .v (.int .i64 v), .v (.int .i64 ls[q].c)]⟩)] Try.func113 Try.ntmps113 rfl (goFn_of Try.func113 rfl (by kernel_rfl)) rfl rfl rfl rfl rfl rfl rfl rfl (by simp_all) rfl ?_
      ((repeat' (first
    | (show SQ _ _ _ _ _ _ _ _; first | apply sq_nil | (apply q_move; exact rfl; exact rfl) | (apply q_assign; exact rfl; exact rfl) | (apply q_fieldAddr; exact rfl; exact rfl; exact (ty rfl); exact rfl; exact rfl; exact rfl; exact rfl) | (apply q_lenl; exact rfl; exact rfl; exact (ty rfl); exact rfl) | (apply q_eql; exact rfl; exact rfl; exact rfl) | (apply q_gtr; exact rfl; exact rfl; exact rfl) | (apply q_ld1p; exact rfl; exact rfl; exact (ty rfl); exact rfl; exact rfl; exact (by first | rfl | assumption | ((try simp only [Nat.zero_add]); refine List.getElem?_set_self ?_; (try simp only [List.length_set]); assumption)); exact rfl))
    | (show SQ _ _ _ _ _ _ _ _; (first | (apply q_ldap; exact rfl; exact rfl; exact (ty rfl); exact rfl; exact rfl; exact (by first | rfl | assumption | ((try simp only [Nat.zero_add]); refine List.getElem?_set_self ?_; (try simp only [List.length_set]); assumption)); exact rfl) | (apply q_alloc; exact rfl; exact (ty rfl); exact rfl; exact rfl) | (apply q_store; exact rfl; exact rfl; exact (ty rfl); exact rfl; exact (by first | rfl | assumption | ((try simp only [Nat.zero_add]); refine List.getElem?_set_self ?_; (try simp only [List.length_set]); assumption)); exact rfl; exact rfl; exact rfl) | (apply q_callC; exact rfl; exact rfl; exact rfl; exact h1 0 _; (focus ((repeat (first | exact trivial | refine ⟨by first | exact rfl | assumption, ?_⟩)); done)); skip) | (apply q_callC; exact rfl; exact rfl; exact rfl; exact h2 0 _; (focus ((repeat (first | exact trivial | refine ⟨by first | exact rfl | assumption, ?_⟩)); done)); skip) | (apply q_callC; exact rfl; exact rfl; exact rfl; exact g2 0 _; (focus ((repeat (first | exact trivial | refine ⟨by first | exact rfl | assumption, ?_⟩)); done)); skip)); (try simp only [put, rowsOf, plR, List.all_cons, selE, ovr, setH, del, cellsA, splice, isV, List.nil_append, List.cons_append, List.map_cons, List.map_nil, List.length_cons, List.length_nil, List.set_cons_zero, List.set_cons_succ, List.take_succ_cons, List.take_zero, List.take_nil, List.drop_succ_cons, List.drop_zero, List.drop_nil, List.append_nil, List.all_cons, List.all_nil, Bool.and_true, Bool.true_and, Bool.and_false, Bool.false_and, Nat.reduceAdd, Nat.zero_add, Nat.add_zero, Nat.reduceEqDiff, if_true, if_false, reduceIte]))
    | (show DE _ _ _ _ _ _ _ _ _ _ _ _; first | (apply e_move; exact rfl; exact rfl; exact rfl) | (apply e_fieldAddr; exact rfl; exact rfl; exact (ty rfl); exact rfl; exact rfl; exact rfl; exact rfl; exact rfl) | (apply e_ixl; exact rfl; exact rfl; exact rfl; exact (ty rfl); exact rfl; exact rfl; exact rfl; exact (by first | omega | (simp; done) | (simp; omega)); exact (by first | omega | (simp; done) | (simp; omega)); exact rfl))
    | (show DE _ _ _ _ _ _ _ _ _ _ _ _; (first | (apply dr_nil; (focus ((repeat (first | exact trivial | exact Or.inr rfl | exact Or.inl (by kernel_rfl) | apply And.intro)); done))) | (apply e_rd1; exact rfl; exact rfl; exact (ty rfl); exact rfl; exact rfl; exact (by first | rfl | assumption | ((try simp only [Nat.zero_add]); refine List.getElem?_set_self ?_; (try simp only [List.length_set]); assumption)); exact rfl; exact rfl; exact rfl) | (apply e_store; exact rfl; exact rfl; exact (ty rfl); exact rfl; exact (by first | rfl | assumption | ((try simp only [Nat.zero_add]); refine List.getElem?_set_self ?_; (try simp only [List.length_set]); assumption)); exact rfl; exact rfl; exact rfl; exact rfl) | (apply e_buildn; exact rfl; exact (ty rfl); exact rfl; exact rfl; exact rfl; exact rfl; exact rfl; exact rfl; exact rfl; exact rfl) | (apply e_callC; exact rfl; exact rfl; exact rfl; exact a1 _; (focus ((repeat (first | exact trivial | refine ⟨by first | exact rfl | assumption, ?_⟩)); done)); exact rfl; skip)); (try simp only [put, rowsOf, plR, List.all_cons, selE, ovr, setH, del, cellsA, splice, isV, List.nil_append, List.cons_append, List.map_cons, List.map_nil, List.length_cons, List.length_nil, List.set_cons_zero, List.set_cons_succ, List.take_succ_cons, List.take_zero, List.take_nil, List.drop_succ_cons, List.drop_zero, List.drop_nil, List.append_nil, List.all_cons, List.all_nil, Bool.and_true, Bool.true_and, Bool.and_false, Bool.false_and, Nat.reduceAdd, Nat.zero_add, Nat.add_zero, Nat.reduceEqDiff, if_true, if_false, reduceIte]))
    | (show AW _ _ _ _ _ _ _ _; first | refine aw_region ?_ | (refine aw_seqk ?_; intro K hK) | refine aw_block ?_ | (apply aw_cond_t; exact rfl; exact rfl) | (apply aw_cond_f; exact rfl; exact rfl) | (apply aw_cond_t; exact rfl; exact (by assumption)) | refine aw_ret ?_ | refine aw_drawE (id := 9) [0, 1, 0, 0, 0, 24, 63, 127, 255] [0, 0, 0, 0, 1, 2, 1, 0, 2, 1, 3] mixed (by kernel_rfl) ?_)
    | refine thn_n ?_
    | (refine hK _ _ _ ?_; clear hK K)
    | refine inb_n ?_)); all_goals (repeat (clear hK K)))
      exact finc (fun z => if z = 1 then 2 else z) (.r1 _ _ (.agg _ _ _ _ _ rfl (.inr ⟨_, _, _, _, _, rfl, rfl, rfl, rfl⟩) (ty rfl) rfl (Nat.le_of_ble_eq_true rfl))) rfl (fun z hz => by simp at hz; simp; omega) ⟨rfl, rfl, trivial⟩ rfl
    · have b5 : decide ((0 : Int) < (ls.length : Int)) = false := by simpa using d
      refine plain fun j id => ?_
      refine RC.ofc [id] 1 [.ptr 0 0 0] [(0, ⟨133, 3, false, [srR s]⟩)] (.agg [.v (.int .i64 n), .sl 1 0 ls.length]) [(0, some ⟨133, 3, false, [srR s2]⟩), (1, some ⟨56, 4, true, ls.map lnL⟩)] Try.func113 Try.ntmps113 rfl (goFn_of Try.func113 rfl (by kernel_rfl)) rfl rfl rfl rfl rfl rfl rfl rfl (by simp_all) rfl ?_
      ((repeat' (first
    | (show SQ _ _ _ _ _ _ _ _; first | apply sq_nil | (apply q_move; exact rfl; exact rfl) | (apply q_assign; exact rfl; exact rfl) | (apply q_fieldAddr; exact rfl; exact rfl; exact (ty rfl); exact rfl; exact rfl; exact rfl; exact rfl) | (apply q_lenl; exact rfl; exact rfl; exact (ty rfl); exact rfl) | (apply q_eql; exact rfl; exact rfl; exact rfl) | (apply q_gtr; exact rfl; exact rfl; exact rfl) | (apply q_ld1p; exact rfl; exact rfl; exact (ty rfl); exact rfl; exact rfl; exact (by first | rfl | assumption | ((try simp only [Nat.zero_add]); refine List.getElem?_set_self ?_; (try simp only [List.length_set]); assumption)); exact rfl))
    | (show SQ _ _ _ _ _ _ _ _; (first | (apply q_ldap; exact rfl; exact rfl; exact (ty rfl); exact rfl; exact rfl; exact (by first | rfl | assumption | ((try simp only [Nat.zero_add]); refine List.getElem?_set_self ?_; (try simp only [List.length_set]); assumption)); exact rfl) | (apply q_alloc; exact rfl; exact (ty rfl); exact rfl; exact rfl) | (apply q_store; exact rfl; exact rfl; exact (ty rfl); exact rfl; exact (by first | rfl | assumption | ((try simp only [Nat.zero_add]); refine List.getElem?_set_self ?_; (try simp only [List.length_set]); assumption)); exact rfl; exact rfl; exact rfl) | (apply q_callC; exact rfl; exact rfl; exact rfl; exact h1 0 _; (focus ((repeat (first | exact trivial | refine ⟨by first | exact rfl | assumption, ?_⟩)); done)); skip) | (apply q_callC; exact rfl; exact rfl; exact rfl; exact h2 0 _; (focus ((repeat (first | exact trivial | refine ⟨by first | exact rfl | assumption, ?_⟩)); done)); skip)); (try simp only [put, rowsOf, plR, List.all_cons, selE, ovr, setH, del, cellsA, splice, isV, List.nil_append, List.cons_append, List.map_cons, List.map_nil, List.length_cons, List.length_nil, List.set_cons_zero, List.set_cons_succ, List.take_succ_cons, List.take_zero, List.take_nil, List.drop_succ_cons, List.drop_zero, List.drop_nil, List.append_nil, List.all_cons, List.all_nil, Bool.and_true, Bool.true_and, Bool.and_false, Bool.false_and, Nat.reduceAdd, Nat.zero_add, Nat.add_zero, Nat.reduceEqDiff, if_true, if_false, reduceIte]))
    | (show AW _ _ _ _ _ _ _ _; first | refine aw_region ?_ | (refine aw_seqk ?_; intro K hK) | refine aw_block ?_ | (apply aw_cond_t; exact rfl; exact rfl) | (apply aw_cond_f; exact rfl; exact rfl) | (apply aw_cond_f; exact rfl; exact (by assumption)) | refine aw_ret ?_ | refine aw_skip ?_)
    | refine thn_n ?_
    | (refine hK _ _ _ ?_; clear hK K)
    | refine inb_n ?_)); all_goals (repeat (clear hK K)))
      exact finc (fun z => if z = 1 then 2 else z) (.r1 _ _ (.agg _ _ _ _ _ rfl (.inr ⟨_, _, _, _, _, rfl, rfl, rfl, rfl⟩) (ty rfl) rfl (Nat.le_of_ble_eq_true rfl))) rfl (fun z hz => by simp at hz; simp; omega) ⟨rfl, rfl, trivial⟩ rfl
  by_cases c2 : p = 2
  · subst c2
    have b0 : ((2 : Int) == 0) = false := rfl
    have b1 : ((2 : Int) == 1) = false := rfl
    have b2 : ((2 : Int) == 2) = true := rfl
    by_cases d : 0 < ls.length
    · have b5 : decide ((0 : Int) < (ls.length : Int)) = true := by simpa using d
      have g2 := fun id => pick_rc id s2 (ls.length : Int) (hok2.mono (by omega)) (by omega)
      have hok3 := pk_ok (ls.length : Int) hok2
      have bd3 := pk_bd s2 (ls.length : Int) (by omega)
      generalize pk s2 (ls.length : Int) = Q at *
      obtain ⟨q, s3⟩ := Q
      dsimp only at g2 hok3 bd3
      obtain ⟨q, rfl⟩ := Int.eq_ofNat_of_zero_le bd3.1
      have hq : q < ls.length := by omega
      have hrow2 : (ls.map lnL)[0 + ((q : Int)).toNat]? = some (lnL ls[q]) := by simp [hq]
      have hrow3 : (ls.map lnL)[((q : Int)).toNat]? = some (lnL ls[q]) := by simp [hq]
      rw [lnL_eq] at hrow2 hrow3
      have hlen2 : ((q : Int)).toNat < (ls.map lnL).length := by simpa using hq
      have a1 := among_rc 0 4 s3 [0, 1000000, 1000001] (by decide) (hok3.mono (by omega)) (by simp) (by simp)
      have hok4 := am_ok [0, 1000000, 1000001] hok3
      generalize am [0, 1000000, 1000001] s3 = A at *
      obtain ⟨v, s4⟩ := A
      dsimp only at a1 hok4
      simp only [nuR, List.map_cons, List.map_nil, List.length_cons, List.length_nil] at a1
      have hset : (ls.set q ⟨ls[q].a, ls[q].b, ls[q].o, v⟩).map lnL = (ls.map lnL).set q (lnL ⟨ls[q].a, ls[q].b, ls[q].o, v⟩) := List.map_set
      rw [lnL_eq] at hset
      dsimp only at hset
      refine ⟨n, ls.set q ⟨ls[q].a, ls[q].b, ls[q].o, v⟩, s4, by omega, by simpa using hL, hok4.mono (by omega), fun j id => ?_⟩
      rw [List.length_set, hset]
      refine RC.ofc [id] 1 [.ptr 0 0 0] [(0, ⟨133, 3, false, [srR s]⟩)] (.agg [.v (.int .i64 n), .sl 1 0 ls.length]) [(0, some ⟨133, 3, false, [srR s4]⟩), (1, some ⟨56, 4, true, (ls.map lnL).set q [.v (.int .i64 ls[q].a), .v (.int .i64 ls[q].b), .v (.int .i64 ls[q].o), .v (.int .i64 v)]⟩)] Try.func113 Try.ntmps113 rfl (goFn_of Try.func113 rfl (by kernel_rfl)) rfl rfl rfl rfl rfl rfl rfl rfl (by simp_all) rfl ?_
      ((repeat' (first
    | (show SQ _ _ _ _ _ _ _ _; first | apply sq_nil | (apply q_move; exact rfl; exact rfl) | (apply q_assign; exact rfl; exact rfl) | (apply q_fieldAddr; exact rfl; exact rfl; exact (ty rfl); exact rfl; exact rfl; exact rfl; exact rfl) | (apply q_lenl; exact rfl; exact rfl; exact (ty rfl); exact rfl) | (apply q_eql; exact rfl; exact rfl; exact rfl) | (apply q_gtr; exact rfl; exact rfl; exact rfl) | (apply q_ld1p; exact rfl; exact rfl; exact (ty rfl); exact rfl; exact rfl; exact (by first | rfl | assumption | ((try simp only [Nat.zero_add]); refine List.getElem?_set_self ?_; (try simp only [List.length_set]); assumption)); exact rfl))
    | (show SQ _ _ _ _ _ _ _ _; (first | (apply q_ldap; exact rfl; exact rfl; exact (ty rfl); exact rfl; exact rfl; exact (by first | rfl | assumption | ((try simp only [Nat.zero_add]); refine List.getElem?_set_self ?_; (try simp only [List.length_set]); assumption)); exact rfl) | (apply q_alloc; exact rfl; exact (ty rfl); exact rfl; exact rfl) | (apply q_store; exact rfl; exact rfl; exact (ty rfl); exact rfl; exact (by first | rfl | assumption | ((try simp only [Nat.zero_add]); refine List.getElem?_set_self ?_; (try simp only [List.length_set]); assumption)); exact rfl; exact rfl; exact rfl) | (apply q_callC; exact rfl; exact rfl; exact rfl; exact h1 0 _; (focus ((repeat (first | exact trivial | refine ⟨by first | exact rfl | assumption, ?_⟩)); done)); skip) | (apply q_callC; exact rfl; exact rfl; exact rfl; exact h2 0 _; (focus ((repeat (first | exact trivial | refine ⟨by first | exact rfl | assumption, ?_⟩)); done)); skip) | (apply q_callC; exact rfl; exact rfl; exact rfl; exact g2 0 _; (focus ((repeat (first | exact trivial | refine ⟨by first | exact rfl | assumption, ?_⟩)); done)); skip)); (try simp only [put, rowsOf, plR, List.all_cons, selE, ovr, setH, del, cellsA, splice, isV, List.nil_append, List.cons_append, List.map_cons, List.map_nil, List.length_cons, List.length_nil, List.set_cons_zero, List.set_cons_succ, List.take_succ_cons, List.take_zero, List.take_nil, List.drop_succ_cons, List.drop_zero, List.drop_nil, List.append_nil, List.all_cons, List.all_nil, Bool.and_true, Bool.true_and, Bool.and_false, Bool.false_and, Nat.reduceAdd, Nat.zero_add, Nat.add_zero, Nat.reduceEqDiff, if_true, if_false, reduceIte]))
    | (show DE _ _ _ _ _ _ _ _ _ _ _ _; first | (apply e_move; exact rfl; exact rfl; exact rfl) | (apply e_fieldAddr; exact rfl; exact rfl; exact (ty rfl); exact rfl; exact rfl; exact rfl; exact rfl; exact rfl) | (apply e_ixl; exact rfl; exact rfl; exact rfl; exact (ty rfl); exact rfl; exact rfl; exact rfl; exact (by first | omega | (simp; done) | (simp; omega)); exact (by first | omega | (simp; done) | (simp; omega)); exact rfl))
    | (show DE _ _ _ _ _ _ _ _ _ _ _ _; (first | (apply dr_nil; (focus ((repeat (first | exact trivial | exact Or.inr rfl | exact Or.inl (by kernel_rfl) | apply And.intro)); done))) | (apply e_rd1; exact rfl; exact rfl; exact (ty rfl); exact rfl; exact rfl; exact (by first | rfl | assumption | ((try simp only [Nat.zero_add]); refine List.getElem?_set_self ?_; (try simp only [List.length_set]); assumption)); exact rfl; exact rfl; exact rfl) | (apply e_store; exact rfl; exact rfl; exact (ty rfl); exact rfl; exact (by first | rfl | assumption | ((try simp only [Nat.zero_add]); refine List.getElem?_set_self ?_; (try simp only [List.length_set]); assumption)); exact rfl; exact rfl; exact rfl; exact rfl) | (apply e_buildn; exact rfl; exact (ty rfl); exact rfl; exact rfl; exact rfl; exact rfl; exact rfl; exact rfl; exact rfl; exact rfl) | (apply e_callC; exact rfl; exact rfl; exact rfl; exact a1 _; (focus ((repeat (first | exact trivial | refine ⟨by first | exact rfl | assumption, ?_⟩)); done)); exact rfl; skip)); (try simp only [put, rowsOf, plR, List.all_cons, selE, ovr, setH, del, cellsA, splice, isV, List.nil_append, List.cons_append, List.map_cons, List.map_nil, List.length_cons, List.length_nil, List.set_cons_zero, List.set_cons_succ, List.take_succ_cons, List.take_zero, List.take_nil, List.drop_succ_cons, List.drop_zero, List.drop_nil, List.append_nil, List.all_cons, List.all_nil, Bool.and_true, Bool.true_and, Bool.and_false, Bool.false_and, Nat.reduceAdd, Nat.zero_add, Nat.add_zero, Nat.reduceEqDiff, if_true, if_false, reduceIte]))
    | (show AW _ _ _ _ _ _ _ _; first | refine aw_region ?_ | (refine aw_seqk ?_; intro K hK) | refine aw_block ?_ | (apply aw_cond_t; exact rfl; exact rfl) | (apply aw_cond_f; exact rfl; exact rfl) | (apply aw_cond_t; exact rfl; exact (by assumption)) | refine aw_ret ?_ | refine aw_drawE (id := 13) [0, 1, 0, 0, 0, 24, 63, 127, 255] [0, 0, 0, 0, 1, 2, 1, 0, 2, 1, 3] mixed (by kernel_rfl) ?_)
    | refine thn_n ?_
    | (refine hK _ _ _ ?_; clear hK K)
    | refine inb_n ?_)); all_goals (repeat (clear hK K)))
      exact finc (fun z => if z = 1 then 2 else z) (.r1 _ _ (.agg _ _ _ _ _ rfl (.inr ⟨_, _, _, _, _, rfl, rfl, rfl, rfl⟩) (ty rfl) rfl (Nat.le_of_ble_eq_true rfl))) rfl (fun z hz => by simp at hz; simp; omega) ⟨rfl, rfl, trivial⟩ rfl
    · have b5 : decide ((0 : Int) < (ls.length : Int)) = false := by simpa using d
      refine plain fun j id => ?_
      refine RC.ofc [id] 1 [.ptr 0 0 0] [(0, ⟨133, 3, false, [srR s]⟩)] (.agg [.v (.int .i64 n), .sl 1 0 ls.length]) [(0, some ⟨133, 3, false, [srR s2]⟩), (1, some ⟨56, 4, true, ls.map lnL⟩)] Try.func113 Try.ntmps113 rfl (goFn_of Try.func113 rfl (by kernel_rfl)) rfl rfl rfl rfl rfl rfl rfl rfl (by simp_all) rfl ?_
      ((repeat' (first
    | (show SQ _ _ _ _ _ _ _ _; first | apply sq_nil | (apply q_move; exact rfl; exact rfl) | (apply q_assign; exact rfl; exact rfl) | (apply q_fieldAddr; exact rfl; exact rfl; exact (ty rfl); exact rfl; exact rfl; exact rfl; exact rfl) | (apply q_lenl; exact rfl; exact rfl; exact (ty rfl); exact rfl) | (apply q_eql; exact rfl; exact rfl; exact rfl) | (apply q_gtr; exact rfl; exact rfl; exact rfl) | (apply q_ld1p; exact rfl; exact rfl; exact (ty rfl); exact rfl; exact rfl; exact (by first | rfl | assumption | ((try simp only [Nat.zero_add]); refine List.getElem?_set_self ?_; (try simp only [List.length_set]); assumption)); exact rfl))
    | (show SQ _ _ _ _ _ _ _ _; (first | (apply q_ldap; exact rfl; exact rfl; exact (ty rfl); exact rfl; exact rfl; exact (by first | rfl | assumption | ((try simp only [Nat.zero_add]); refine List.getElem?_set_self ?_; (try simp only [List.length_set]); assumption)); exact rfl) | (apply q_alloc; exact rfl; exact (ty rfl); exact rfl; exact rfl) | (apply q_store; exact rfl; exact rfl; exact (ty rfl); exact rfl; exact (by first | rfl | assumption | ((try simp only [Nat.zero_add]); refine List.getElem?_set_self ?_; (try simp only [List.length_set]); assumption)); exact rfl; exact rfl; exact rfl) | (apply q_callC; exact rfl; exact rfl; exact rfl; exact h1 0 _; (focus ((repeat (first | exact trivial | refine ⟨by first | exact rfl | assumption, ?_⟩)); done)); skip) | (apply q_callC; exact rfl; exact rfl; exact rfl; exact h2 0 _; (focus ((repeat (first | exact trivial | refine ⟨by first | exact rfl | assumption, ?_⟩)); done)); skip)); (try simp only [put, rowsOf, plR, List.all_cons, selE, ovr, setH, del, cellsA, splice, isV, List.nil_append, List.cons_append, List.map_cons, List.map_nil, List.length_cons, List.length_nil, List.set_cons_zero, List.set_cons_succ, List.take_succ_cons, List.take_zero, List.take_nil, List.drop_succ_cons, List.drop_zero, List.drop_nil, List.append_nil, List.all_cons, List.all_nil, Bool.and_true, Bool.true_and, Bool.and_false, Bool.false_and, Nat.reduceAdd, Nat.zero_add, Nat.add_zero, Nat.reduceEqDiff, if_true, if_false, reduceIte]))
    | (show AW _ _ _ _ _ _ _ _; first | refine aw_region ?_ | (refine aw_seqk ?_; intro K hK) | refine aw_block ?_ | (apply aw_cond_t; exact rfl; exact rfl) | (apply aw_cond_f; exact rfl; exact rfl) | (apply aw_cond_f; exact rfl; exact (by assumption)) | refine aw_ret ?_ | refine aw_skip ?_)
    | refine thn_n ?_
    | (refine hK _ _ _ ?_; clear hK K)
    | refine inb_n ?_)); all_goals (repeat (clear hK K)))
      exact finc (fun z => if z = 1 then 2 else z) (.r1 _ _ (.agg _ _ _ _ _ rfl (.inr ⟨_, _, _, _, _, rfl, rfl, rfl, rfl⟩) (ty rfl) rfl (Nat.le_of_ble_eq_true rfl))) rfl (fun z hz => by simp at hz; simp; omega) ⟨rfl, rfl, trivial⟩ rfl
  have plain2 : (p = 3 → ls.length ≤ 1) → ∃ n ls s', Bd s k n ls s' := fun hh => by
    have b0 : (p == 0) = false := by simpa using c0
    have b1 : (p == 1) = false := by simpa using c1
    have b2 : (p == 2) = false := by simpa using c2
    refine plain fun j id => ?_
    refine RC.ofc [id] 1 [.ptr 0 0 0] [(0, ⟨133, 3, false, [srR s]⟩)] (.agg [.v (.int .i64 n), .sl 1 0 ls.length]) [(0, some ⟨133, 3, false, [srR s2]⟩), (1, some ⟨56, 4, true, ls.map lnL⟩)] Try.func113 Try.ntmps113 rfl (goFn_of Try.func113 rfl (by kernel_rfl)) rfl rfl rfl rfl rfl rfl rfl rfl (by simp_all) rfl ?_
    by_cases c3 : p = 3
    · have b3 : (p == 3) = true := by simpa using c3
      have b5 : decide ((1 : Int) < (ls.length : Int)) = false := by have := hh c3; simp; omega
      ((repeat' (first
    | (show SQ _ _ _ _ _ _ _ _; first | apply sq_nil | (apply q_move; exact rfl; exact rfl) | (apply q_assign; exact rfl; exact rfl) | (apply q_fieldAddr; exact rfl; exact rfl; exact (ty rfl); exact rfl; exact rfl; exact rfl; exact rfl) | (apply q_lenl; exact rfl; exact rfl; exact (ty rfl); exact rfl) | (apply q_eql; exact rfl; exact rfl; exact rfl) | (apply q_gtr; exact rfl; exact rfl; exact rfl) | (apply q_ld1p; exact rfl; exact rfl; exact (ty rfl); exact rfl; exact rfl; exact (by first | rfl | assumption | ((try simp only [Nat.zero_add]); refine List.getElem?_set_self ?_; (try simp only [List.length_set]); assumption)); exact rfl))
    | (show SQ _ _ _ _ _ _ _ _; (first | (apply q_ldap; exact rfl; exact rfl; exact (ty rfl); exact rfl; exact rfl; exact (by first | rfl | assumption | ((try simp only [Nat.zero_add]); refine List.getElem?_set_self ?_; (try simp only [List.length_set]); assumption)); exact rfl) | (apply q_alloc; exact rfl; exact (ty rfl); exact rfl; exact rfl) | (apply q_store; exact rfl; exact rfl; exact (ty rfl); exact rfl; exact (by first | rfl | assumption | ((try simp only [Nat.zero_add]); refine List.getElem?_set_self ?_; (try simp only [List.length_set]); assumption)); exact rfl; exact rfl; exact rfl) | (apply q_callC; exact rfl; exact rfl; exact rfl; exact h1 0 _; (focus ((repeat (first | exact trivial | refine ⟨by first | exact rfl | assumption, ?_⟩)); done)); skip) | (apply q_callC; exact rfl; exact rfl; exact rfl; exact h2 0 _; (focus ((repeat (first | exact trivial | refine ⟨by first | exact rfl | assumption, ?_⟩)); done)); skip)); (try simp only [put, rowsOf, plR, List.all_cons, selE, ovr, setH, del, cellsA, splice, isV, List.nil_append, List.cons_append, List.map_cons, List.map_nil, List.length_cons, List.length_nil, List.set_cons_zero, List.set_cons_succ, List.take_succ_cons, List.take_zero, List.take_nil, List.drop_succ_cons, List.drop_zero, List.drop_nil, List.append_nil, List.all_cons, List.all_nil, Bool.and_true, Bool.true_and, Bool.and_false, Bool.false_and, Nat.reduceAdd, Nat.zero_add, Nat.add_zero, Nat.reduceEqDiff, if_true, if_false, reduceIte]))
    | (show AW _ _ _ _ _ _ _ _; first | refine aw_region ?_ | (refine aw_seqk ?_; intro K hK) | refine aw_block ?_ | (apply aw_cond_t; exact rfl; exact (by assumption)) | (apply aw_cond_f; exact rfl; exact (by assumption)) | refine aw_ret ?_ | refine aw_skip ?_)
    | refine thn_n ?_
    | (refine hK _ _ _ ?_; clear hK K)
    | refine inb_n ?_)); all_goals (repeat (clear hK K)))
      exact finc (fun z => if z = 1 then 2 else z) (.r1 _ _ (.agg _ _ _ _ _ rfl (.inr ⟨_, _, _, _, _, rfl, rfl, rfl, rfl⟩) (ty rfl) rfl (Nat.le_of_ble_eq_true rfl))) rfl (fun z hz => by simp at hz; simp; omega) ⟨rfl, rfl, trivial⟩ rfl
    · have b3 : (p == 3) = false := by simpa using c3
      ((repeat' (first
    | (show SQ _ _ _ _ _ _ _ _; first | apply sq_nil | (apply q_move; exact rfl; exact rfl) | (apply q_assign; exact rfl; exact rfl) | (apply q_fieldAddr; exact rfl; exact rfl; exact (ty rfl); exact rfl; exact rfl; exact rfl; exact rfl) | (apply q_lenl; exact rfl; exact rfl; exact (ty rfl); exact rfl) | (apply q_eql; exact rfl; exact rfl; exact rfl) | (apply q_ld1p; exact rfl; exact rfl; exact (ty rfl); exact rfl; exact rfl; exact (by first | rfl | assumption | ((try simp only [Nat.zero_add]); refine List.getElem?_set_self ?_; (try simp only [List.length_set]); assumption)); exact rfl))
    | (show SQ _ _ _ _ _ _ _ _; (first | (apply q_ldap; exact rfl; exact rfl; exact (ty rfl); exact rfl; exact rfl; exact (by first | rfl | assumption | ((try simp only [Nat.zero_add]); refine List.getElem?_set_self ?_; (try simp only [List.length_set]); assumption)); exact rfl) | (apply q_alloc; exact rfl; exact (ty rfl); exact rfl; exact rfl) | (apply q_store; exact rfl; exact rfl; exact (ty rfl); exact rfl; exact (by first | rfl | assumption | ((try simp only [Nat.zero_add]); refine List.getElem?_set_self ?_; (try simp only [List.length_set]); assumption)); exact rfl; exact rfl; exact rfl) | (apply q_callC; exact rfl; exact rfl; exact rfl; exact h1 0 _; (focus ((repeat (first | exact trivial | refine ⟨by first | exact rfl | assumption, ?_⟩)); done)); skip) | (apply q_callC; exact rfl; exact rfl; exact rfl; exact h2 0 _; (focus ((repeat (first | exact trivial | refine ⟨by first | exact rfl | assumption, ?_⟩)); done)); skip)); (try simp only [put, rowsOf, plR, List.all_cons, selE, ovr, setH, del, cellsA, splice, isV, List.nil_append, List.cons_append, List.map_cons, List.map_nil, List.length_cons, List.length_nil, List.set_cons_zero, List.set_cons_succ, List.take_succ_cons, List.take_zero, List.take_nil, List.drop_succ_cons, List.drop_zero, List.drop_nil, List.append_nil, List.all_cons, List.all_nil, Bool.and_true, Bool.true_and, Bool.and_false, Bool.false_and, Nat.reduceAdd, Nat.zero_add, Nat.add_zero, Nat.reduceEqDiff, if_true, if_false, reduceIte]))
    | (show AW _ _ _ _ _ _ _ _; first | refine aw_region ?_ | (refine aw_seqk ?_; intro K hK) | refine aw_block ?_ | (apply aw_cond_f; exact rfl; exact (by assumption)) | refine aw_ret ?_ | refine aw_skip ?_)
    | refine thn_n ?_
    | (refine hK _ _ _ ?_; clear hK K)
    | refine inb_n ?_)); all_goals (repeat (clear hK K)))
      exact finc (fun z => if z = 1 then 2 else z) (.r1 _ _ (.agg _ _ _ _ _ rfl (.inr ⟨_, _, _, _, _, rfl, rfl, rfl, rfl⟩) (ty rfl) rfl (Nat.le_of_ble_eq_true rfl))) rfl (fun z hz => by simp at hz; simp; omega) ⟨rfl, rfl, trivial⟩ rfl
  by_cases c3 : p = 3
  · by_cases d : 1 < ls.length
    · subst c3
      have b0 : ((3 : Int) == 0) = false := rfl
      have b1 : ((3 : Int) == 1) = false := rfl
      have b2 : ((3 : Int) == 2) = false := rfl
      have b3 : ((3 : Int) == 3) = true := rfl
      have b5 : decide ((1 : Int) < (ls.length : Int)) = true := by simp; omega
      have d0 : 0 < ls.length := by omega
      have hrow2 : (ls.map lnL)[0 + ((0 : Int)).toNat]? = some (lnL ls[0]) := by simp [d0]
      have hrow3 : (ls.map lnL)[0 + ((1 : Int)).toNat]? = some (lnL ls[1]) := by simp [d]
      rw [lnL_eq] at hrow2 hrow3
      have hlen2 : ((1 : Int)).toNat < (ls.map lnL).length := by simpa using d
      have hset : (ls.set 1 ls[0]).map lnL = (ls.map lnL).set 1 (lnL ls[0]) := List.map_set
      rw [lnL_eq] at hset
      refine ⟨n, ls.set 1 ls[0], s2, by omega, by simpa using hL, hok2.mono (by omega), fun j id => ?_⟩
      rw [List.length_set, hset]
      refine RC.ofc [id] 1 [.ptr 0 0 0] [(0, ⟨133, 3, false, [srR s]⟩)] (.agg [.v (.int .i64 n), .sl 1 0 ls.length]) [(0, some ⟨133, 3, false, [srR s2]⟩), (1, some ⟨56, 4, true, (ls.map lnL).set 1 [.v (.int .i64 ls[0].a), .v (.int .i64 ls[0].b), .v (.int .i64 ls[0].o), .v (.int .i64 ls[0].c)]⟩)] Try.func113 Try.ntmps113 rfl (goFn_of Try.func113 rfl (by kernel_rfl)) rfl rfl rfl rfl rfl rfl rfl rfl (by simp_all) rfl ?_
      ((repeat' (first
    | (show SQ _ _ _ _ _ _ _ _; first | apply sq_nil | (apply q_move; exact rfl; exact rfl) | (apply q_assign; exact rfl; exact rfl) | (apply q_fieldAddr; exact rfl; exact rfl; exact (ty rfl); exact rfl; exact rfl; exact rfl; exact rfl) | (apply q_lenl; exact rfl; exact rfl; exact (ty rfl); exact rfl) | (apply q_eql; exact rfl; exact rfl; exact rfl) | (apply q_gtr; exact rfl; exact rfl; exact rfl) | (apply q_ld1p; exact rfl; exact rfl; exact (ty rfl); exact rfl; exact rfl; exact (by first | rfl | assumption | ((try simp only [Nat.zero_add]); refine List.getElem?_set_self ?_; (try simp only [List.length_set]); assumption)); exact rfl))
    | (show SQ _ _ _ _ _ _ _ _; (first | (apply q_ldap; exact rfl; exact rfl; exact (ty rfl); exact rfl; exact rfl; exact (by first | rfl | assumption | ((try simp only [Nat.zero_add]); refine List.getElem?_set_self ?_; (try simp only [List.length_set]); assumption)); exact rfl) | (apply q_alloc; exact rfl; exact (ty rfl); exact rfl; exact rfl) | (apply q_store; exact rfl; exact rfl; exact (ty rfl); exact rfl; exact (by first | rfl | assumption | ((try simp only [Nat.zero_add]); refine List.getElem?_set_self ?_; (try simp only [List.length_set]); assumption)); exact rfl; exact rfl; exact rfl) | (apply q_callC; exact rfl; exact rfl; exact rfl; exact h1 0 _; (focus ((repeat (first | exact trivial | refine ⟨by first | exact rfl | assumption, ?_⟩)); done)); skip) | (apply q_callC; exact rfl; exact rfl; exact rfl; exact h2 0 _; (focus ((repeat (first | exact trivial | refine ⟨by first | exact rfl | assumption, ?_⟩)); done)); skip)); (try simp only [put, rowsOf, plR, List.all_cons, selE, ovr, setH, del, cellsA, splice, isV, List.nil_append, List.cons_append, List.map_cons, List.map_nil, List.length_cons, List.length_nil, List.set_cons_zero, List.set_cons_succ, List.take_succ_cons, List.take_zero, List.take_nil, List.drop_succ_cons, List.drop_zero, List.drop_nil, List.append_nil, List.all_cons, List.all_nil, Bool.and_true, Bool.true_and, Bool.and_false, Bool.false_and, Nat.reduceAdd, Nat.zero_add, Nat.add_zero, Nat.reduceEqDiff, if_true, if_false, reduceIte]))
    | (show DE _ _ _ _ _ _ _ _ _ _ _ _; first | (apply e_fieldAddr; exact rfl; exact rfl; exact (ty rfl); exact rfl; exact rfl; exact rfl; exact rfl; exact rfl) | (apply e_ixl; exact rfl; exact rfl; exact rfl; exact (ty rfl); exact rfl; exact rfl; exact rfl; exact (by first | omega | (simp; done) | (simp; omega)); exact (by first | omega | (simp; done) | (simp; omega)); exact rfl) | (apply e_ld1p; exact rfl; exact rfl; exact (ty rfl); exact rfl; exact rfl; exact (by first | rfl | assumption | ((try simp only [Nat.zero_add]); refine List.getElem?_set_self ?_; (try simp only [List.length_set]); assumption)); exact rfl; exact rfl))
    | (show DE _ _ _ _ _ _ _ _ _ _ _ _; (first | (apply dr_nil; exact trivial) | (apply e_ldap; exact rfl; exact rfl; exact (ty rfl); exact rfl; exact rfl; exact (by first | rfl | assumption | ((try simp only [Nat.zero_add]); refine List.getElem?_set_self ?_; (try simp only [List.length_set]); assumption)); exact rfl; exact rfl) | (apply e_store; exact rfl; exact rfl; exact (ty rfl); exact rfl; exact (by first | rfl | assumption | ((try simp only [Nat.zero_add]); refine List.getElem?_set_self ?_; (try simp only [List.length_set]); assumption)); exact rfl; exact rfl; exact rfl; exact rfl)); (try simp only [put, rowsOf, plR, List.all_cons, selE, ovr, setH, del, cellsA, splice, isV, List.nil_append, List.cons_append, List.map_cons, List.map_nil, List.length_cons, List.length_nil, List.set_cons_zero, List.set_cons_succ, List.take_succ_cons, List.take_zero, List.take_nil, List.drop_succ_cons, List.drop_zero, List.drop_nil, List.append_nil, List.all_cons, List.all_nil, Bool.and_true, Bool.true_and, Bool.and_false, Bool.false_and, Nat.reduceAdd, Nat.zero_add, Nat.add_zero, Nat.reduceEqDiff, if_true, if_false, reduceIte]))
    | (show AW _ _ _ _ _ _ _ _; first | refine aw_region ?_ | (refine aw_seqk ?_; intro K hK) | refine aw_block ?_ | (apply aw_cond_t; exact rfl; exact rfl) | (apply aw_cond_f; exact rfl; exact rfl) | (apply aw_cond_t; exact rfl; exact (by assumption)) | refine aw_ret ?_ | refine aw_drawE (id := 16) [0, 1, 0, 4, 12, 28, 63, 127] [0, 1, 0, 1, 1, 1, 1, 2] mixed (by kernel_rfl) ?_)
    | refine thn_n ?_
    | (refine hK _ _ _ ?_; clear hK K)
    | refine inb_n ?_)); all_goals (repeat (clear hK K)))
      exact finc (fun z => if z = 1 then 2 else z) (.r1 _ _ (.agg _ _ _ _ _ rfl (.inr ⟨_, _, _, _, _, rfl, rfl, rfl, rfl⟩) (ty rfl) rfl (Nat.le_of_ble_eq_true rfl))) rfl (fun z hz => by simp at hz; simp; omega) ⟨rfl, rfl, trivial⟩ rfl
    · exact plain2 fun _ => by omega
  · exact plain2 fun h => absurd h c3
set_option maxHeartbeats 4000000 in
theorem l00Max_ro (a b : Int) (k : Nat) : RO Try.prog 83 [.v (.int .i64 a), .v (.int .i64 b)] k (.v (.int .i64 (if a < b then b else a))) [] k := by
  refine RO.ofv' Try.func83 Try.ntmps83 rfl (goFn_of Try.func83 rfl (by kernel_rfl)) rfl rfl ?_
  ((repeat' (first
    | (show SQ _ _ _ _ _ _ _ _; first | apply sq_nil | (apply q_move; exact rfl; exact rfl) | (apply q_assign; exact rfl; exact rfl) | (apply q_gtr; exact rfl; exact rfl; exact rfl))
    | (show AW _ _ _ _ _ _ _ _; first | refine aw_region ?_ | (refine aw_seqk ?_; intro K hK) | refine aw_ret ?_ | refine aw_skip ?_ | (apply aw_ite; exact rfl; all_goals intro h))
    | refine thn_n ?_
    | (refine hK _ _ _ ?_; clear hK K)
    | refine thn_r ?_)); all_goals (repeat (clear hK K)))
  all_goals refine fin_r (fin_i rfl ?_)
  all_goals simp_all
  all_goals (intros; omega)
structure Bt (s : Sr) (k n : Int) (ls : List Ln) (a b : Int) (s' : Sr) : Prop where
  nb : n ≤ 100
  le : ls.length ≤ 32
  ok : s'.ok (k + 2200)
  rc : ∀ j id, RC Try.prog 80 [.ptr id 0 0] [(id, ⟨133, 3, false, [srR s]⟩)] j (.tup [.agg [.v (.int .i64 n), .sl j 0 ls.length], .v (.int .i64 a), .v (.int .i64 b)]) [(id, some ⟨133, 3, false, [srR s']⟩), (j, some ⟨56, 4, true, ls.map lnL⟩)] (j + 1)
theorem l25DrawTwo_ex {s : Sr} {k : Int} (h : s.ok k) (hk : k ≤ 80000) : ∃ n ls a b s', Bt s k n ls a b s' := by
  obtain ⟨n, ls, s1, h1⟩ := l25Draw_ex h (by omega)
  have hM := l00Max_ro n 1
  have hm : 1 ≤ (if n < 1 then 1 else n) ∧ (if n < 1 then 1 else n) ≤ 100 := by have := h1.nb; split <;> omega
  generalize (if n < 1 then 1 else n) = m at hM hm
  have h2 := fun id => pick_rc id s1 m (h1.ok.mono (by omega)) (by omega)
  have hok2 := pk_ok m h1.ok
  generalize pk s1 m = P at *
  obtain ⟨a, s2⟩ := P
  dsimp only at h2 hok2
  have h3 := fun id => pick_rc id s2 m (hok2.mono (by omega)) (by omega)
  have hok3 := pk_ok m hok2
  generalize pk s2 m = P at *
  obtain ⟨b, s3⟩ := P
  dsimp only at h3 hok3
  have h4 := fun id => pick_rc id s3 14 (hok3.mono (by omega)) (by omega)
  have hok4 := pk_ok 14 hok3
  generalize pk s3 14 = P at *
  obtain ⟨p, s4⟩ := P
  dsimp only at h4 hok4
  have a1 := among_rc 0 4 s4 [-1, m] (by decide) (hok4.mono (by omega)) (by simp) (by simp)
  have hok5 := am_ok [-1, m] hok4
  generalize am [-1, m] s4 = A at *
  obtain ⟨v, s5⟩ := A
  dsimp only at a1 hok5
  simp only [nuR, List.map_cons, List.map_nil, List.length_cons, List.length_nil] at a1
  have r1 := h1.rc
  have hL := h1.le
  have hnb := h1.nb
  by_cases c0 : p = 0
  · have b0 : (p == 0) = true := by simpa using c0
    refine ⟨n, ls, v, b, s5, hnb, hL, hok5.mono (by omega), fun j id => ?_⟩
    refine RC.ofc [id] 1 [.ptr 0 0 0] [(0, ⟨133, 3, false, [srR s]⟩)] (.tup [.agg [.v (.int .i64 n), .sl 1 0 ls.length], .v (.int .i64 v), .v (.int .i64 b)]) [(0, some ⟨133, 3, false, [srR s5]⟩), (1, some ⟨56, 4, true, ls.map lnL⟩)] Try.func80 Try.ntmps80 rfl (goFn_of Try.func80 rfl (by kernel_rfl)) rfl rfl rfl rfl rfl rfl rfl rfl (by simp_all) rfl ?_
    ((repeat' (first
    | (show SQ _ _ _ _ _ _ _ _; first | apply sq_nil | (apply q_move; exact rfl; exact rfl) | (apply q_assign; exact rfl; exact rfl) | (apply q_fieldAddr; exact rfl; exact rfl; exact (ty rfl); exact rfl; exact rfl; exact rfl; exact rfl) | (apply q_eql; exact rfl; exact rfl; exact rfl) | (apply q_ld1p; exact rfl; exact rfl; exact (ty rfl); exact rfl; exact rfl; exact (by first | rfl | assumption | ((try simp only [Nat.zero_add]); refine List.getElem?_set_self ?_; (try simp only [List.length_set]); assumption)); exact rfl))
    | (show SQ _ _ _ _ _ _ _ _; (first | (apply q_ldap; exact rfl; exact rfl; exact (ty rfl); exact rfl; exact rfl; exact (by first | rfl | assumption | ((try simp only [Nat.zero_add]); refine List.getElem?_set_self ?_; (try simp only [List.length_set]); assumption)); exact rfl) | (apply q_alloc; exact rfl; exact (ty rfl); exact rfl; exact rfl) | (apply q_store; exact rfl; exact rfl; exact (ty rfl); exact rfl; exact (by first | rfl | assumption | ((try simp only [Nat.zero_add]); refine List.getElem?_set_self ?_; (try simp only [List.length_set]); assumption)); exact rfl; exact rfl; exact rfl) | (apply q_buildn; exact rfl; exact (ty rfl); exact rfl; exact rfl; exact rfl; exact rfl; exact rfl; exact rfl; exact rfl) | (apply q_callU; exact rfl; exact rfl; exact rfl; exact FzL.of rfl; exact hM _) | (apply q_callC; exact rfl; exact rfl; exact rfl; exact r1 _ 0; (focus ((repeat (first | exact trivial | refine ⟨by first | exact rfl | assumption, ?_⟩)); done)); skip) | (apply q_callC; exact rfl; exact rfl; exact rfl; exact h2 0 _; (focus ((repeat (first | exact trivial | refine ⟨by first | exact rfl | assumption, ?_⟩)); done)); skip) | (apply q_callC; exact rfl; exact rfl; exact rfl; exact h3 0 _; (focus ((repeat (first | exact trivial | refine ⟨by first | exact rfl | assumption, ?_⟩)); done)); skip) | (apply q_callC; exact rfl; exact rfl; exact rfl; exact h4 0 _; (focus ((repeat (first | exact trivial | refine ⟨by first | exact rfl | assumption, ?_⟩)); done)); skip) | (apply q_callC; exact rfl; exact rfl; exact rfl; exact a1 _; (focus ((repeat (first | exact trivial | refine ⟨by first | exact rfl | assumption, ?_⟩)); done)); skip)); (try simp only [put, rowsOf, plR, List.all_cons, selE, ovr, setH, del, cellsA, splice, isV, List.nil_append, List.cons_append, List.map_cons, List.map_nil, List.length_cons, List.length_nil, List.set_cons_zero, List.set_cons_succ, List.take_succ_cons, List.take_zero, List.take_nil, List.drop_succ_cons, List.drop_zero, List.drop_nil, List.append_nil, List.all_cons, List.all_nil, Bool.and_true, Bool.true_and, Bool.and_false, Bool.false_and, Nat.reduceAdd, Nat.zero_add, Nat.add_zero, Nat.reduceEqDiff, if_true, if_false, reduceIte]))
    | (show AW _ _ _ _ _ _ _ _; first | refine aw_region ?_ | (refine aw_seqk ?_; intro K hK) | refine aw_block ?_ | (apply aw_cond_t; exact rfl; exact (by assumption)) | refine aw_ret ?_)
    | refine thn_n ?_
    | (refine hK _ _ _ ?_; clear hK K)
    | refine inb_n ?_)); all_goals (repeat (clear hK K)))
    exact finc (fun z => if z = 1 then 2 else z) (.r3 _ _ _ _ _ _ (.agg _ _ _ _ _ rfl (.inr ⟨_, _, _, _, _, rfl, rfl, rfl, rfl⟩) (ty rfl) rfl (Nat.le_of_ble_eq_true rfl)) (.tmp _ _ rfl) (.tmp _ _ rfl)) rfl (fun z hz => by simp at hz; simp; omega) ⟨rfl, rfl, trivial⟩ rfl
  have b0 : (p == 0) = false := by simpa using c0
  by_cases c1 : p = 1
  · have b1 : (p == 1) = true := by simpa using c1
    refine ⟨n, ls, a, v, s5, hnb, hL, hok5.mono (by omega), fun j id => ?_⟩
    refine RC.ofc [id] 1 [.ptr 0 0 0] [(0, ⟨133, 3, false, [srR s]⟩)] (.tup [.agg [.v (.int .i64 n), .sl 1 0 ls.length], .v (.int .i64 a), .v (.int .i64 v)]) [(0, some ⟨133, 3, false, [srR s5]⟩), (1, some ⟨56, 4, true, ls.map lnL⟩)] Try.func80 Try.ntmps80 rfl (goFn_of Try.func80 rfl (by kernel_rfl)) rfl rfl rfl rfl rfl rfl rfl rfl (by simp_all) rfl ?_
    ((repeat' (first
    | (show SQ _ _ _ _ _ _ _ _; first | apply sq_nil | (apply q_move; exact rfl; exact rfl) | (apply q_assign; exact rfl; exact rfl) | (apply q_fieldAddr; exact rfl; exact rfl; exact (ty rfl); exact rfl; exact rfl; exact rfl; exact rfl) | (apply q_eql; exact rfl; exact rfl; exact rfl) | (apply q_ld1p; exact rfl; exact rfl; exact (ty rfl); exact rfl; exact rfl; exact (by first | rfl | assumption | ((try simp only [Nat.zero_add]); refine List.getElem?_set_self ?_; (try simp only [List.length_set]); assumption)); exact rfl))
    | (show SQ _ _ _ _ _ _ _ _; (first | (apply q_ldap; exact rfl; exact rfl; exact (ty rfl); exact rfl; exact rfl; exact (by first | rfl | assumption | ((try simp only [Nat.zero_add]); refine List.getElem?_set_self ?_; (try simp only [List.length_set]); assumption)); exact rfl) | (apply q_alloc; exact rfl; exact (ty rfl); exact rfl; exact rfl) | (apply q_store; exact rfl; exact rfl; exact (ty rfl); exact rfl; exact (by first | rfl | assumption | ((try simp only [Nat.zero_add]); refine List.getElem?_set_self ?_; (try simp only [List.length_set]); assumption)); exact rfl; exact rfl; exact rfl) | (apply q_buildn; exact rfl; exact (ty rfl); exact rfl; exact rfl; exact rfl; exact rfl; exact rfl; exact rfl; exact rfl) | (apply q_callU; exact rfl; exact rfl; exact rfl; exact FzL.of rfl; exact hM _) | (apply q_callC; exact rfl; exact rfl; exact rfl; exact r1 _ 0; (focus ((repeat (first | exact trivial | refine ⟨by first | exact rfl | assumption, ?_⟩)); done)); skip) | (apply q_callC; exact rfl; exact rfl; exact rfl; exact h2 0 _; (focus ((repeat (first | exact trivial | refine ⟨by first | exact rfl | assumption, ?_⟩)); done)); skip) | (apply q_callC; exact rfl; exact rfl; exact rfl; exact h3 0 _; (focus ((repeat (first | exact trivial | refine ⟨by first | exact rfl | assumption, ?_⟩)); done)); skip) | (apply q_callC; exact rfl; exact rfl; exact rfl; exact h4 0 _; (focus ((repeat (first | exact trivial | refine ⟨by first | exact rfl | assumption, ?_⟩)); done)); skip) | (apply q_callC; exact rfl; exact rfl; exact rfl; exact a1 _; (focus ((repeat (first | exact trivial | refine ⟨by first | exact rfl | assumption, ?_⟩)); done)); skip)); (try simp only [put, rowsOf, plR, List.all_cons, selE, ovr, setH, del, cellsA, splice, isV, List.nil_append, List.cons_append, List.map_cons, List.map_nil, List.length_cons, List.length_nil, List.set_cons_zero, List.set_cons_succ, List.take_succ_cons, List.take_zero, List.take_nil, List.drop_succ_cons, List.drop_zero, List.drop_nil, List.append_nil, List.all_cons, List.all_nil, Bool.and_true, Bool.true_and, Bool.and_false, Bool.false_and, Nat.reduceAdd, Nat.zero_add, Nat.add_zero, Nat.reduceEqDiff, if_true, if_false, reduceIte]))
    | (show AW _ _ _ _ _ _ _ _; first | refine aw_region ?_ | (refine aw_seqk ?_; intro K hK) | refine aw_block ?_ | (apply aw_cond_t; exact rfl; exact (by assumption)) | (apply aw_cond_f; exact rfl; exact (by assumption)) | refine aw_ret ?_)
    | refine thn_n ?_
    | (refine hK _ _ _ ?_; clear hK K)
    | refine inb_n ?_)); all_goals (repeat (clear hK K)))
    exact finc (fun z => if z = 1 then 2 else z) (.r3 _ _ _ _ _ _ (.agg _ _ _ _ _ rfl (.inr ⟨_, _, _, _, _, rfl, rfl, rfl, rfl⟩) (ty rfl) rfl (Nat.le_of_ble_eq_true rfl)) (.tmp _ _ rfl) (.tmp _ _ rfl)) rfl (fun z hz => by simp at hz; simp; omega) ⟨rfl, rfl, trivial⟩ rfl
  · have b1 : (p == 1) = false := by simpa using c1
    refine ⟨n, ls, a, b, s4, hnb, hL, hok4.mono (by omega), fun j id => ?_⟩
    refine RC.ofc [id] 1 [.ptr 0 0 0] [(0, ⟨133, 3, false, [srR s]⟩)] (.tup [.agg [.v (.int .i64 n), .sl 1 0 ls.length], .v (.int .i64 a), .v (.int .i64 b)]) [(0, some ⟨133, 3, false, [srR s4]⟩), (1, some ⟨56, 4, true, ls.map lnL⟩)] Try.func80 Try.ntmps80 rfl (goFn_of Try.func80 rfl (by kernel_rfl)) rfl rfl rfl rfl rfl rfl rfl rfl (by simp_all) rfl ?_
    ((repeat' (first
    | (show SQ _ _ _ _ _ _ _ _; first | apply sq_nil | (apply q_move; exact rfl; exact rfl) | (apply q_assign; exact rfl; exact rfl) | (apply q_fieldAddr; exact rfl; exact rfl; exact (ty rfl); exact rfl; exact rfl; exact rfl; exact rfl) | (apply q_eql; exact rfl; exact rfl; exact rfl) | (apply q_ld1p; exact rfl; exact rfl; exact (ty rfl); exact rfl; exact rfl; exact (by first | rfl | assumption | ((try simp only [Nat.zero_add]); refine List.getElem?_set_self ?_; (try simp only [List.length_set]); assumption)); exact rfl))
    | (show SQ _ _ _ _ _ _ _ _; (first | (apply q_ldap; exact rfl; exact rfl; exact (ty rfl); exact rfl; exact rfl; exact (by first | rfl | assumption | ((try simp only [Nat.zero_add]); refine List.getElem?_set_self ?_; (try simp only [List.length_set]); assumption)); exact rfl) | (apply q_alloc; exact rfl; exact (ty rfl); exact rfl; exact rfl) | (apply q_store; exact rfl; exact rfl; exact (ty rfl); exact rfl; exact (by first | rfl | assumption | ((try simp only [Nat.zero_add]); refine List.getElem?_set_self ?_; (try simp only [List.length_set]); assumption)); exact rfl; exact rfl; exact rfl) | (apply q_callU; exact rfl; exact rfl; exact rfl; exact FzL.of rfl; exact hM _) | (apply q_callC; exact rfl; exact rfl; exact rfl; exact r1 _ 0; (focus ((repeat (first | exact trivial | refine ⟨by first | exact rfl | assumption, ?_⟩)); done)); skip) | (apply q_callC; exact rfl; exact rfl; exact rfl; exact h2 0 _; (focus ((repeat (first | exact trivial | refine ⟨by first | exact rfl | assumption, ?_⟩)); done)); skip) | (apply q_callC; exact rfl; exact rfl; exact rfl; exact h3 0 _; (focus ((repeat (first | exact trivial | refine ⟨by first | exact rfl | assumption, ?_⟩)); done)); skip) | (apply q_callC; exact rfl; exact rfl; exact rfl; exact h4 0 _; (focus ((repeat (first | exact trivial | refine ⟨by first | exact rfl | assumption, ?_⟩)); done)); skip)); (try simp only [put, rowsOf, plR, List.all_cons, selE, ovr, setH, del, cellsA, splice, isV, List.nil_append, List.cons_append, List.map_cons, List.map_nil, List.length_cons, List.length_nil, List.set_cons_zero, List.set_cons_succ, List.take_succ_cons, List.take_zero, List.take_nil, List.drop_succ_cons, List.drop_zero, List.drop_nil, List.append_nil, List.all_cons, List.all_nil, Bool.and_true, Bool.true_and, Bool.and_false, Bool.false_and, Nat.reduceAdd, Nat.zero_add, Nat.add_zero, Nat.reduceEqDiff, if_true, if_false, reduceIte]))
    | (show AW _ _ _ _ _ _ _ _; first | refine aw_region ?_ | (refine aw_seqk ?_; intro K hK) | refine aw_block ?_ | (apply aw_cond_f; exact rfl; exact (by assumption)) | refine aw_ret ?_ | refine aw_skip ?_)
    | refine thn_n ?_
    | (refine hK _ _ _ ?_; clear hK K)
    | refine inb_n ?_)); all_goals (repeat (clear hK K)))
    exact finc (fun z => if z = 1 then 2 else z) (.r3 _ _ _ _ _ _ (.agg _ _ _ _ _ rfl (.inr ⟨_, _, _, _, _, rfl, rfl, rfl, rfl⟩) (ty rfl) rfl (Nat.le_of_ble_eq_true rfl)) (.tmp _ _ rfl) (.tmp _ _ rfl)) rfl (fun z hz => by simp at hz; simp; omega) ⟨rfl, rfl, trivial⟩ rfl
theorem DrawBackupRoute_ex (bs : List Int) (hb : ∀ b ∈ bs, 0 ≤ b ∧ b ≤ 255) (hn : bs.length ≤ 9223372036854775807) : ∃ (n : Int) (ls : List Ln) (a b : Int), n ≤ 100 ∧ ls.length ≤ 32 ∧
    ∀ k, RC Try.prog 33 [.dsl 1 (byL bs)] [] k (.tup [.agg [.v (.int .i64 n), .sl k 0 ls.length], .v (.int .i64 a), .v (.int .i64 b)]) [(k, some ⟨56, 4, true, ls.map lnL⟩)] (k + 1) := by
  have hok : (⟨bs, 0, 0⟩ : Sr).ok 0 := ⟨hb, by simp, by simp, hn⟩
  obtain ⟨n, ls, a, b, s', h⟩ := l25DrawTwo_ex hok (by omega)
  have r1 := h.rc
  refine ⟨n, ls, a, b, h.nb, h.le, fun k => ?_⟩
  refine RC.ofc [] 1 [.dsl 1 (byL bs)] [] (.tup [.agg [.v (.int .i64 n), .sl 0 0 ls.length], .v (.int .i64 a), .v (.int .i64 b)]) [(0, some ⟨56, 4, true, ls.map lnL⟩)] Try.func33 Try.ntmps33 rfl (goFn_of Try.func33 rfl (by kernel_rfl)) rfl rfl rfl rfl rfl rfl rfl rfl (by simp_all) rfl ?_
  ((repeat' (first
    | (show SQ _ _ _ _ _ _ _ _; first | apply sq_nil | (apply q_move; exact rfl; exact rfl) | (apply q_assign; exact rfl; exact rfl) | (apply q_ext; exact rfl; exact rfl; exact rfl))
    | (show SQ _ _ _ _ _ _ _ _; (first | (apply q_alloc; exact rfl; exact (ty rfl); exact rfl; exact rfl) | (apply q_store; exact rfl; exact rfl; exact (ty rfl); exact rfl; exact (by first | rfl | assumption | ((try simp only [Nat.zero_add]); refine List.getElem?_set_self ?_; (try simp only [List.length_set]); assumption)); exact rfl; exact rfl; exact rfl) | (apply q_callC; exact rfl; exact rfl; exact rfl; exact l00From_rc bs _; (focus ((repeat (first | exact trivial | refine ⟨by first | exact rfl | assumption, ?_⟩)); done)); skip) | (apply q_callC; exact rfl; exact rfl; exact rfl; exact r1 _ 1; (focus ((repeat (first | exact trivial | refine ⟨by first | exact rfl | assumption, ?_⟩)); done)); skip)); (try simp only [put, rowsOf, plR, List.all_cons, selE, ovr, setH, del, cellsA, splice, isV, List.nil_append, List.cons_append, List.map_cons, List.map_nil, List.length_cons, List.length_nil, List.set_cons_zero, List.set_cons_succ, List.take_succ_cons, List.take_zero, List.take_nil, List.drop_succ_cons, List.drop_zero, List.drop_nil, List.append_nil, List.all_cons, List.all_nil, Bool.and_true, Bool.true_and, Bool.and_false, Bool.false_and, Nat.reduceAdd, Nat.zero_add, Nat.add_zero, Nat.reduceEqDiff, if_true, if_false, reduceIte]))
    | (show AW _ _ _ _ _ _ _ _; first | refine aw_region ?_ | (refine aw_seqk ?_; intro K hK) | refine aw_ret ?_)
    | refine thn_n ?_
    | (refine hK _ _ _ ?_; clear hK K))); all_goals (repeat (clear hK K)))
  exact finc (fun z => 2) (.r3 _ _ _ _ _ _ (.agg _ _ _ _ _ rfl (.inr ⟨_, _, _, _, _, rfl, rfl, rfl, rfl⟩) (ty rfl) rfl (Nat.le_of_ble_eq_true rfl)) (.tmp _ _ rfl) (.tmp _ _ rfl)) rfl (fun z hz => by simp at hz) ⟨rfl, trivial⟩ rfl
end Go.Proofs.Ytglfcaioapdiaaa.Bk

namespace Go.Proofs.Ytglfcaioapdiaaa.Bk
open Go Go.RowKit Go.Proofs.Ytglfcaioapdiaaa.Aw
set_option linter.unusedSimpArgs false
set_option linter.unusedVariables false
attribute [local irreducible] AW SQ Step RO RC DE Thn InB
section
variable (n : Int) (ls : List Ln) (a b : Int) (hn : ls.length ≤ 1048576)
include hn
end
end Go.Proofs.Ytglfcaioapdiaaa.Bk

-- Backup routes and outages of pairs: both functions.
namespace Go.Proofs.Ytglfcaioapdiaaa.Bk
open Go Go.RowKit Go.Proofs.Ytglfcaioapdiaaa.Aw
set_option linter.unusedSimpArgs false
set_option linter.unusedVariables false
attribute [local irreducible] AW SQ Step RO RC DE Thn InB
section
variable (n : Int) (ls : List Ln) (a b : Int) (hn : ls.length ≤ 1048576)
include hn
set_option maxHeartbeats 4000000 in
theorem Backup_bad_ro (hc : codeV n ls [a, b] ≠ 0) (k : Nat) : RO Try.prog 22 [.agg (bkL n ls), .v (.int .i64 a), .v (.int .i64 b)] k (.tup [.v (.slice none 0 0), .v (.int .i64 (codeV n ls [a, b]))]) [] k := by
  have hC := code2_ro n ls a b hn
  have b1 : (codeV n ls [a, b] != 0) = true := by simpa using hc
  generalize codeV n ls [a, b] = c at *
  unfold bkL at hC ⊢
  refine RO.ofp Try.func22 Try.ntmps22 rfl (goFn_of Try.func22 rfl (by kernel_rfl)) rfl rfl rfl ?_
  ((repeat' (first
    | (show SQ _ _ _ _ _ _ _ _; first | apply sq_nil | (apply q_move; exact rfl; exact rfl) | (apply q_assign; exact rfl; exact rfl) | (apply q_neq; exact rfl; exact rfl; exact rfl))
    | (show SQ _ _ _ _ _ _ _ _; (first | (apply q_ldap; exact rfl; exact rfl; exact (ty rfl); exact rfl; exact rfl; exact (by first | rfl | assumption | ((try simp only [Nat.zero_add]); refine List.getElem?_set_self ?_; (try simp only [List.length_set]); assumption)); exact rfl) | (apply q_box; exact rfl; exact rfl; exact rfl) | (apply q_buildn; exact rfl; exact (ty rfl); exact rfl; exact rfl; exact rfl; exact rfl; exact rfl; exact rfl; exact rfl) | (apply q_callU; exact rfl; exact rfl; exact rfl; exact FzL.of rfl; exact hC _)); (try simp only [put, rowsOf, plR, List.all_cons, selE, ovr, setH, del, cellsA, splice, isV, List.nil_append, List.cons_append, List.map_cons, List.map_nil, List.length_cons, List.length_nil, List.set_cons_zero, List.set_cons_succ, List.take_succ_cons, List.take_zero, List.take_nil, List.drop_succ_cons, List.drop_zero, List.drop_nil, List.append_nil, List.all_cons, List.all_nil, Bool.and_true, Bool.true_and, Bool.and_false, Bool.false_and, Nat.reduceAdd, Nat.zero_add, Nat.add_zero, Nat.reduceEqDiff, if_true, if_false, reduceIte]))
    | (show AW _ _ _ _ _ _ _ _; first | refine aw_region ?_ | (refine aw_seqk ?_; intro K hK) | refine aw_block ?_ | (apply aw_cond_t; exact rfl; exact (by assumption)) | refine aw_ret ?_)
    | refine thn_n ?_
    | (refine hK _ _ _ ?_; clear hK K)
    | refine thn_r ?_
    | refine inb_r ?_)); all_goals (repeat (clear hK K)))
  all_goals refine fin_r (fin_p (.r2 _ _ _ _ (.tmp _ _ rfl) (.tmp _ _ rfl)) ?_ rfl rfl rfl)
  all_goals rfl
set_option maxHeartbeats 4000000 in
theorem Backup_same_ro (hc : codeV n ls [a, b] = 0) (he : a = b) (k : Nat) : RO Try.prog 22 [.agg (bkL n ls), .v (.int .i64 a), .v (.int .i64 b)] k (.tup [.v (.slice none 0 0), .v (.int .i64 6)]) [] k := by
  have hC := code2_ro n ls a b hn
  rw [hc] at hC
  have b1 : ((0 : Int) != 0) = false := by simp
  have b2 : (a == b) = true := by simpa using he
  unfold bkL at hC ⊢
  refine RO.ofp Try.func22 Try.ntmps22 rfl (goFn_of Try.func22 rfl (by kernel_rfl)) rfl rfl rfl ?_
  ((repeat' (first
    | (show SQ _ _ _ _ _ _ _ _; first | apply sq_nil | (apply q_move; exact rfl; exact rfl) | (apply q_assign; exact rfl; exact rfl) | (apply q_eql; exact rfl; exact rfl; exact rfl) | (apply q_neq; exact rfl; exact rfl; exact rfl))
    | (show SQ _ _ _ _ _ _ _ _; (first | (apply q_ldap; exact rfl; exact rfl; exact (ty rfl); exact rfl; exact rfl; exact (by first | rfl | assumption | ((try simp only [Nat.zero_add]); refine List.getElem?_set_self ?_; (try simp only [List.length_set]); assumption)); exact rfl) | (apply q_box; exact rfl; exact rfl; exact rfl) | (apply q_buildn; exact rfl; exact (ty rfl); exact rfl; exact rfl; exact rfl; exact rfl; exact rfl; exact rfl; exact rfl) | (apply q_callU; exact rfl; exact rfl; exact rfl; exact FzL.of rfl; exact hC _)); (try simp only [put, rowsOf, plR, List.all_cons, selE, ovr, setH, del, cellsA, splice, isV, List.nil_append, List.cons_append, List.map_cons, List.map_nil, List.length_cons, List.length_nil, List.set_cons_zero, List.set_cons_succ, List.take_succ_cons, List.take_zero, List.take_nil, List.drop_succ_cons, List.drop_zero, List.drop_nil, List.append_nil, List.all_cons, List.all_nil, Bool.and_true, Bool.true_and, Bool.and_false, Bool.false_and, Nat.reduceAdd, Nat.zero_add, Nat.add_zero, Nat.reduceEqDiff, if_true, if_false, reduceIte]))
    | (show AW _ _ _ _ _ _ _ _; first | refine aw_region ?_ | (refine aw_seqk ?_; intro K hK) | refine aw_block ?_ | (apply aw_cond_f; exact rfl; exact rfl) | (apply aw_cond_t; exact rfl; exact (by assumption)) | refine aw_ret ?_)
    | refine thn_n ?_
    | (refine hK _ _ _ ?_; clear hK K)
    | refine thn_r ?_
    | refine inb_r ?_)); all_goals (repeat (clear hK K)))
  all_goals refine fin_r (fin_p (.r2 _ _ _ _ (.tmp _ _ rfl) (.tmp _ _ rfl)) ?_ rfl rfl rfl)
  all_goals rfl
set_option maxHeartbeats 4000000 in
theorem Backup_none_ro (hc : codeV n ls [a, b] = 0) (he : a ≠ b) (hh : fh (farR n ls b) a = false ∨ (fh (farR n ls b) a = true ∧ fh (farR n (twR n ls a b) b) a = false)) (k : Nat) : RO Try.prog 22 [.agg (bkL n ls), .v (.int .i64 a), .v (.int .i64 b)] k (.tup [.v (.slice none 0 0), .v (.int .i64 3)]) [] k := by
  have hC := code2_ro n ls a b hn
  obtain ⟨hN, hL, ha, hb, _⟩ := codeV_ok hc
  rw [hc] at hC
  have b1 : ((0 : Int) != 0) = false := by simp
  have b2 : (a == b) = false := by simpa using he
  rcases hh with hh | ⟨hh, hh2⟩
  · have hT := twoRoutes_nil_ro n ls a b hN hn hL ha hb hh
    unfold bkL at hC hT ⊢
    refine RO.ofp Try.func22 Try.ntmps22 rfl (goFn_of Try.func22 rfl (by kernel_rfl)) rfl rfl rfl ?_
    ((repeat' (first
    | (show SQ _ _ _ _ _ _ _ _; first | apply sq_nil | (apply q_move; exact rfl; exact rfl) | (apply q_assign; exact rfl; exact rfl) | (apply q_ext; exact rfl; exact rfl; exact rfl) | (apply q_eql; exact rfl; exact rfl; exact rfl) | (apply q_neq; exact rfl; exact rfl; exact rfl) | (apply q_nil_ev; exact rfl; exact rfl; exact rfl; exact (ty rfl); exact rfl))
    | (show SQ _ _ _ _ _ _ _ _; (first | (apply q_ldap; exact rfl; exact rfl; exact (ty rfl); exact rfl; exact rfl; exact (by first | rfl | assumption | ((try simp only [Nat.zero_add]); refine List.getElem?_set_self ?_; (try simp only [List.length_set]); assumption)); exact rfl) | (apply q_box; exact rfl; exact rfl; exact rfl) | (apply q_buildn; exact rfl; exact (ty rfl); exact rfl; exact rfl; exact rfl; exact rfl; exact rfl; exact rfl; exact rfl) | (apply q_callU; exact rfl; exact rfl; exact rfl; exact FzL.of rfl; exact hC _) | (apply q_callU; exact rfl; exact rfl; exact rfl; exact FzL.of rfl; exact hT _)); (try simp only [put, rowsOf, plR, List.all_cons, selE, ovr, setH, del, cellsA, splice, isV, List.nil_append, List.cons_append, List.map_cons, List.map_nil, List.length_cons, List.length_nil, List.set_cons_zero, List.set_cons_succ, List.take_succ_cons, List.take_zero, List.take_nil, List.drop_succ_cons, List.drop_zero, List.drop_nil, List.append_nil, List.all_cons, List.all_nil, Bool.and_true, Bool.true_and, Bool.and_false, Bool.false_and, Nat.reduceAdd, Nat.zero_add, Nat.add_zero, Nat.reduceEqDiff, if_true, if_false, reduceIte]))
    | (show AW _ _ _ _ _ _ _ _; first | refine aw_region ?_ | (refine aw_seqk ?_; intro K hK) | refine aw_block ?_ | (apply aw_cond_t; exact rfl; exact rfl) | (apply aw_cond_f; exact rfl; exact rfl) | (apply aw_cond_f; exact rfl; exact (by assumption)) | refine aw_ret ?_ | refine aw_skip ?_)
    | refine thn_n ?_
    | (refine hK _ _ _ ?_; clear hK K)
    | refine thn_r ?_
    | refine inb_n ?_)); all_goals (repeat (clear hK K)))
    all_goals refine fin_r (fin_p (.r2 _ _ _ _ (.tmp _ _ rfl) (.tmp _ _ rfl)) ?_ rfl rfl rfl)
    all_goals rfl
  · have hT := twoRoutes_none_ro n ls a b hN hn hL ha hb hh hh2
    unfold bkL at hC hT ⊢
    refine RO.ofp Try.func22 Try.ntmps22 rfl (goFn_of Try.func22 rfl (by kernel_rfl)) rfl rfl rfl ?_
    ((repeat' (first
    | (show SQ _ _ _ _ _ _ _ _; first | apply sq_nil | (apply q_move; exact rfl; exact rfl) | (apply q_assign; exact rfl; exact rfl) | (apply q_ext; exact rfl; exact rfl; exact rfl) | (apply q_eql; exact rfl; exact rfl; exact rfl) | (apply q_neq; exact rfl; exact rfl; exact rfl) | (apply q_nil_ev; exact rfl; exact rfl; exact rfl; exact (ty rfl); exact rfl))
    | (show SQ _ _ _ _ _ _ _ _; (first | (apply q_ldap; exact rfl; exact rfl; exact (ty rfl); exact rfl; exact rfl; exact (by first | rfl | assumption | ((try simp only [Nat.zero_add]); refine List.getElem?_set_self ?_; (try simp only [List.length_set]); assumption)); exact rfl) | (apply q_box; exact rfl; exact rfl; exact rfl) | (apply q_buildn; exact rfl; exact (ty rfl); exact rfl; exact rfl; exact rfl; exact rfl; exact rfl; exact rfl; exact rfl) | (apply q_callU; exact rfl; exact rfl; exact rfl; exact FzL.of rfl; exact hC _) | (apply q_callU; exact rfl; exact rfl; exact rfl; exact FzL.of rfl; exact hT _)); (try simp only [put, rowsOf, plR, List.all_cons, selE, ovr, setH, del, cellsA, splice, isV, List.nil_append, List.cons_append, List.map_cons, List.map_nil, List.length_cons, List.length_nil, List.set_cons_zero, List.set_cons_succ, List.take_succ_cons, List.take_zero, List.take_nil, List.drop_succ_cons, List.drop_zero, List.drop_nil, List.append_nil, List.all_cons, List.all_nil, Bool.and_true, Bool.true_and, Bool.and_false, Bool.false_and, Nat.reduceAdd, Nat.zero_add, Nat.add_zero, Nat.reduceEqDiff, if_true, if_false, reduceIte]))
    | (show AW _ _ _ _ _ _ _ _; first | refine aw_region ?_ | (refine aw_seqk ?_; intro K hK) | refine aw_block ?_ | (apply aw_cond_t; exact rfl; exact rfl) | (apply aw_cond_f; exact rfl; exact rfl) | (apply aw_cond_f; exact rfl; exact (by assumption)) | refine aw_ret ?_ | refine aw_skip ?_)
    | refine thn_n ?_
    | (refine hK _ _ _ ?_; clear hK K)
    | refine thn_r ?_
    | refine inb_n ?_)); all_goals (repeat (clear hK K)))
    all_goals refine fin_r (fin_p (.r2 _ _ _ _ (.tmp _ _ rfl) (.tmp _ _ rfl)) ?_ rfl rfl rfl)
    all_goals rfl
set_option maxHeartbeats 4000000 in
theorem Backup_some_ro (hc : codeV n ls [a, b] = 0) (he : a ≠ b) (hh : fh (farR n ls b) a = true) (hh2 : fh (farR n (twR n ls a b) b) a = true) (k : Nat) : RO Try.prog 22 [.agg (bkL n ls), .v (.int .i64 a), .v (.int .i64 b)] k (.tup [.sl k 0 (rtN n (twR n ls a b) a b), .v (.int .i64 0)]) [(k, ⟨2, 1, true, (rtL n (twR n ls a b) a b).map inL⟩)] (k + 1) := by
  have hC := code2_ro n ls a b hn
  obtain ⟨hN, hL, ha, hb, _⟩ := codeV_ok hc
  rw [hc] at hC
  have b1 : ((0 : Int) != 0) = false := by simp
  have b2 : (a == b) = false := by simpa using he
  have hT := twoRoutes_both_ro n ls a b hN hn hL ha hb hh hh2
  have h0 : 0 < rtN n (twR n ls a b) a b := Nat.succ_pos _
  refine RO.ofm (.tup [.sl 0 0 (rtN n (twR n ls a b) a b), .v (.int .i64 0)]) ([(0, ⟨2, 1, true, (rtL n (twR n ls a b) a b).map inL⟩)]) 1 Try.func22 Try.ntmps22 rfl (goFn_of Try.func22 rfl (by kernel_rfl)) rfl rfl (by simp [renA, renL]) (by simp [shH, renB]) rfl ?_
  generalize rtN n (twR n ls a b) a b = L2 at *
  generalize rtL n (twR n ls a b) a b = xs2 at *
  generalize rtN n ls a b = L at *
  generalize rtL n ls a b = xs at *
  unfold bkL at hC hT ⊢
  ((repeat' (first
    | (show SQ _ _ _ _ _ _ _ _; first | apply sq_nil | (apply q_move; exact rfl; exact rfl) | (apply q_assign; exact rfl; exact rfl) | (apply q_ext; exact rfl; exact rfl; exact rfl) | (apply q_eql; exact rfl; exact rfl; exact rfl) | (apply q_neq; exact rfl; exact rfl; exact rfl) | (apply q_nil_el; exact rfl; exact rfl; exact rfl; exact (ty rfl); exact rfl; exact (by first | omega | (simp; done) | (simp; omega))))
    | (show SQ _ _ _ _ _ _ _ _; (first | (apply q_ldap; exact rfl; exact rfl; exact (ty rfl); exact rfl; exact rfl; exact (by first | rfl | assumption | ((try simp only [Nat.zero_add]); refine List.getElem?_set_self ?_; (try simp only [List.length_set]); assumption)); exact rfl) | (apply q_box; exact rfl; exact rfl; exact rfl) | (apply q_buildn; exact rfl; exact (ty rfl); exact rfl; exact rfl; exact rfl; exact rfl; exact rfl; exact rfl; exact rfl) | (apply q_callU; exact rfl; exact rfl; exact rfl; exact FzL.of rfl; exact hC _) | (apply q_callU; exact rfl; exact rfl; exact rfl; exact FzL.of rfl; exact hT _)); (try simp only [put, rowsOf, plR, List.all_cons, selE, ovr, setH, del, cellsA, splice, isV, List.nil_append, List.cons_append, List.map_cons, List.map_nil, List.length_cons, List.length_nil, List.set_cons_zero, List.set_cons_succ, List.take_succ_cons, List.take_zero, List.take_nil, List.drop_succ_cons, List.drop_zero, List.drop_nil, List.append_nil, List.all_cons, List.all_nil, Bool.and_true, Bool.true_and, Bool.and_false, Bool.false_and, Nat.reduceAdd, Nat.zero_add, Nat.add_zero, Nat.reduceEqDiff, if_true, if_false, reduceIte]))
    | (show AW _ _ _ _ _ _ _ _; first | refine aw_region ?_ | (refine aw_seqk ?_; intro K hK) | refine aw_block ?_ | (apply aw_cond_f; exact rfl; exact rfl) | (apply aw_cond_f; exact rfl; exact (by assumption)) | refine aw_ret ?_ | refine aw_skip ?_)
    | refine thn_n ?_
    | (refine hK _ _ _ ?_; clear hK K)
    | refine inb_n ?_)); all_goals (repeat (clear hK K)))
  all_goals exact fin_r (fin_m2 rfl rfl rfl _ _ rfl rfl rfl)
end
end Go.Proofs.Ytglfcaioapdiaaa.Bk

namespace Go.Proofs.Ytglfcaioapdiaaa.Bk
open Go Go.RowKit Go.Proofs.Ytglfcaioapdiaaa.Aw
set_option linter.unusedSimpArgs false
set_option linter.unusedVariables false
attribute [local irreducible] AW SQ Step RO RC DE Thn InB
def serS (w p : Int) : Int := IntKind.i64.wrap ((IntKind.i64.wrap (w * IntKind.i64.wrap (1000000 - p))).tdiv 1000000)
def serV (xs : List Int) (i : Nat) : Int := (xs.take i).foldl serS 1000000
theorem serV_succ {xs : List Int} {i : Nat} (h : i < xs.length) : serV xs (i + 1) = serS (serV xs i) xs[i] := by
  rw [serV, List.take_succ_eq_append_getElem h, List.foldl_append]; rfl
set_option maxHeartbeats 4000000 in
theorem seriesOutage_ro (xs : List Int) (rows : List (List AV)) (hrows : rows = xs.map inL) (hn : xs.length ≤ 1048576) (k : Nat) : RO Try.prog 98 [.dsl 1 rows] k (.v (.int .i64 (IntKind.i64.wrap (1000000 - serV xs xs.length)))) [] k := by
  subst hrows
  refine RO.ofv' Try.func98 Try.ntmps98 rfl (goFn_of Try.func98 rfl (by kernel_rfl)) rfl rfl ?_
  ((repeat' (first
    | (show SQ _ _ _ _ _ _ _ _; first | apply sq_nil | (apply q_move; exact rfl; exact rfl) | (apply q_assign; exact rfl; exact rfl) | (apply q_lend; exact rfl; exact rfl; exact (ty rfl); exact rfl))
    | (show AW _ _ _ _ _ _ _ _; first | refine aw_region ?_ | (refine aw_seqk ?_; intro K hK) | refine aw_block ?_)
    | refine thn_n ?_
    | (refine hK _ _ _ ?_; clear hK K))); all_goals (repeat (clear hK K)))
  refine aw_loop (ρ := id) (ι := Nat) (fun i => ([(8, .v (.int .i64 i)), (3, .v (.int .i64 (serV xs i))), (6, .dsl 1 (xs.map inL)), (7, .v (.int .i64 ((xs.map inL).length : Nat)))], [], 0))
    (fun i => i ≤ xs.length) (fun i => xs.length - i) 0 (Nat.zero_le _) ⟨by (repeat (refine ⟨by first | exact lk_i rfl rfl | exact lk_d rfl rfl, ?_⟩)); exact trivial, by exact trivial, by rfl, by exact pin_0⟩ ?_
  intro i hi
  by_cases c2 : i < xs.length
  · have b2 : decide ((i : Int) < ((xs.map inL).length : Int)) = true := by simpa using c2
    have hrow : (xs.map inL)[((i : Int)).toNat]? = some (inL xs[i]) := by simp [c2]
    rw [inL_eq] at hrow
    have e1 := serV_succ c2
    ((repeat' (first
    | (show SQ _ _ _ _ _ _ _ _; first | apply sq_nil | (apply q_move; exact rfl; exact rfl) | (apply q_assign; exact rfl; exact rfl) | (apply q_add; exact rfl; exact rfl; exact rfl) | (apply q_sub; exact rfl; exact rfl; exact rfl) | (apply q_mul; exact rfl; exact rfl; exact rfl) | (apply q_quo; exact rfl; exact rfl; exact rfl; exact (by first | decide | omega)) | (apply q_lss; exact rfl; exact rfl; exact rfl) | (apply q_ixd; exact rfl; exact rfl; exact rfl; exact (ty rfl); exact rfl; exact (by first | omega | (simp; done) | (simp; omega)); exact (by first | omega | (simp; done) | (simp; omega)); exact (by first | rfl | assumption)) | (apply q_ld1d; exact rfl; exact rfl; exact (ty rfl); exact rfl; exact rfl))
    | (show AW _ _ _ _ _ _ _ _; first | refine aw_region ?_ | (refine aw_seqk ?_; intro K hK) | refine aw_block ?_ | (apply aw_cond_t; exact rfl; exact (by assumption)) | refine aw_skip ?_)
    | refine thn_n ?_
    | (refine hK _ _ _ ?_; clear hK K)
    | refine inb_n ?_)); all_goals (repeat (clear hK K)))
    all_goals (refine ⟨i + 1, id, c2, by omega, ?_⟩; (try dsimp only); rw [e1]; exact ⟨by (repeat (refine ⟨by first | exact lk_i rfl rfl | exact lk_i rfl (by (try dsimp only); first | rfl | omega | (rw [IntWalk.i64_in _ (by omega)]; first | rfl | omega | (push_cast; omega)) | (simp; done) | (simp; omega)) | exact lk_d rfl rfl, ?_⟩)); exact trivial, by exact trivial, by rfl, by exact pin_0⟩)
  · have b2 : decide ((i : Int) < ((xs.map inL).length : Int)) = false := by simpa using c2
    obtain rfl : i = xs.length := by omega
    ((repeat' (first
    | (show SQ _ _ _ _ _ _ _ _; first | apply sq_nil | (apply q_move; exact rfl; exact rfl) | (apply q_assign; exact rfl; exact rfl) | (apply q_sub; exact rfl; exact rfl; exact rfl) | (apply q_lss; exact rfl; exact rfl; exact rfl))
    | (show AW _ _ _ _ _ _ _ _; first | refine aw_region ?_ | (refine aw_seqk ?_; intro K hK) | (apply aw_cond_f; exact rfl; exact (by assumption)) | refine aw_ret ?_ | refine aw_exit ?_)
    | refine thn_n ?_
    | (refine hK _ _ _ ?_; clear hK K)
    | refine thn_e ?_
    | refine inb_same ?_
    | (clear hK K; refine hK _ _ _ ?_; clear hK K))); all_goals (repeat (clear hK K)))
    all_goals exact fin_r (fin_i rfl rfl)
def outI (ls : List Ln) (ix : List Int) (i : Nat) : List Int := (ix.take i).map fun x => (ls.getD x.toNat lnz).o
theorem outI_len {ls : List Ln} {ix : List Int} {i : Nat} (h : i ≤ ix.length) : (outI ls ix i).length = i := by simp [outI, h]
theorem outI_succ {ls : List Ln} {ix : List Int} {i : Nat} (h : i < ix.length) (h0 : 0 ≤ ix[i]) (h1 : ix[i].toNat < ls.length) : outI ls ix (i + 1) = outI ls ix i ++ [ls[ix[i].toNat].o] := by
  rw [outI, List.take_succ_eq_append_getElem h, List.map_append]
  simp [outI, List.getD, h1]
def outV (ls : List Ln) (ix : List Int) : Int := IntKind.i64.wrap (1000000 - serV (outI ls ix ix.length) (outI ls ix ix.length).length)
end Go.Proofs.Ytglfcaioapdiaaa.Bk

namespace Go.Proofs.Ytglfcaioapdiaaa.Bk
open Go Go.RowKit Go.Proofs.Ytglfcaioapdiaaa.Aw
set_option linter.unusedSimpArgs false
set_option linter.unusedVariables false
attribute [local irreducible] AW SQ Step RO RC DE Thn InB
theorem rtI_in {n : Int} {ls : List Ln} {rd : List Int} (h : rtB n ls rd = true) : ∀ x ∈ rtI ls rd rd.length, 0 ≤ x ∧ x < ls.length := by
  intro x hx
  obtain ⟨j, hj, rfl⟩ := List.mem_map.1 hx
  have hj := List.mem_range.1 hj
  have := (rtB_get h).2 (j + 1) (by omega)
  simp only [goodR, Bool.and_eq_true, Bool.or_eq_true, decide_eq_true_eq] at this
  refine ⟨by omega, (ixG_rng _ _).2⟩
set_option maxHeartbeats 4000000 in
theorem outage_ro (n : Int) (ls : List Ln) (rd : List Int) (hN : 1 ≤ n ∧ n ≤ 12) (hn : ls.length ≤ 1048576) (hr : rd.length ≤ 1048576) (h : rtB n ls rd = true) (k : Nat) :
    RO Try.prog 59 [.agg (bkL n ls), .dsl 1 (rd.map inL)] k (.v (.int .i64 (outV ls (rtI ls rd rd.length)))) [] k := by
  have hix := rtI_in h
  have hl := rtI_len ls rd rd.length
  have hLk := linksOf_ok_ro n ls rd hN hn hr h
  generalize rtI ls rd rd.length = ix at hix hl hLk ⊢
  unfold bkL at hLk ⊢
  refine RO.ofv' Try.func59 Try.ntmps59 rfl (goFn_of Try.func59 rfl (by kernel_rfl)) rfl rfl ?_
  ((repeat' (first
    | (show SQ _ _ _ _ _ _ _ _; first | apply sq_nil | (apply q_move; exact rfl; exact rfl) | (apply q_assign; exact rfl; exact rfl) | (apply q_ext; exact rfl; exact rfl; exact rfl) | (apply q_lenl; exact rfl; exact rfl; exact (ty rfl); exact rfl))
    | (show SQ _ _ _ _ _ _ _ _; (first | (apply q_ldap; exact rfl; exact rfl; exact (ty rfl); exact rfl; exact rfl; exact (by first | rfl | assumption | ((try simp only [Nat.zero_add]); refine List.getElem?_set_self ?_; (try simp only [List.length_set]); assumption)); exact rfl) | (apply q_box; exact rfl; exact rfl; exact rfl) | (apply q_callU; exact rfl; exact rfl; exact rfl; exact FzL.of rfl; exact hLk _)); (try simp only [put, rowsOf, plR, List.all_cons, selE, ovr, setH, del, cellsA, splice, isV, List.nil_append, List.cons_append, List.map_cons, List.map_nil, List.length_cons, List.length_nil, List.set_cons_zero, List.set_cons_succ, List.take_succ_cons, List.take_zero, List.take_nil, List.drop_succ_cons, List.drop_zero, List.drop_nil, List.append_nil, List.all_cons, List.all_nil, Bool.and_true, Bool.true_and, Bool.and_false, Bool.false_and, Nat.reduceAdd, Nat.zero_add, Nat.add_zero, Nat.reduceEqDiff, if_true, if_false, reduceIte]))
    | (show AW _ _ _ _ _ _ _ _; first | refine aw_region ?_ | (refine aw_seqk ?_; intro K hK) | refine aw_block ?_)
    | refine thn_n ?_
    | (refine hK _ _ _ ?_; clear hK K))); all_goals (repeat (clear hK K)))
  refine aw_nil (t := 7) 2 1 rfl ?_
  refine aw_loop (ρ := id) (ι := Nat) (fun i => ([(18, .v (.int .i64 i)), (7, .sl 2 0 (outI ls ix i).length), (16, .sl 1 0 ix.length), (17, .v (.int .i64 (ix.length : Nat))), (2, .ptr 0 0 0)], [(0, ⟨31, 2, false, [[.v (.int .i64 n), .dsl 4 (ls.map lnL)]]⟩), (1, ⟨2, 1, true, ix.map inL⟩), (2, ⟨2, 1, true, (outI ls ix i).map inL⟩)], 3))
    (fun i => i ≤ ix.length) (fun i => ix.length - i) 0 (Nat.zero_le _) ⟨by (repeat (refine ⟨by first | exact lk_i rfl rfl | exact lk_r rfl rfl rfl | exact lk_s rfl rfl rfl rfl, ?_⟩)); exact trivial, by (repeat (refine ⟨by first | exact ⟨rfl, rfl, rfl⟩, ?_⟩)); exact trivial, by rfl, by exact pin_0⟩ ?_
  intro i hi
  have hlen := outI_len (ls := ls) hi
  have hml : ((outI ls ix i).map inL).length = (outI ls ix i).length := List.length_map _
  by_cases c2 : i < ix.length
  · have b2 : decide ((i : Int) < (ix.length : Int)) = true := by simpa using c2
    have hrow : (ix.map inL)[0 + ((i : Int)).toNat]? = some (inL ix[i]) := by simp [c2]
    rw [inL_eq] at hrow
    obtain ⟨x0, x1⟩ := hix ix[i] (List.getElem_mem c2)
    have x2 : ix[i].toNat < ls.length := by omega
    have hrow2 : (ls.map lnL)[(ix[i]).toNat]? = some (lnL ls[ix[i].toNat]) := by simp [x2]
    rw [lnL_eq] at hrow2
    have e1 := outI_succ c2 x0 x2
    ((repeat' (first
    | (show SQ _ _ _ _ _ _ _ _; first | apply sq_nil | (apply q_move; exact rfl; exact rfl) | (apply q_assign; exact rfl; exact rfl) | (apply q_fieldAddr; exact rfl; exact rfl; exact (ty rfl); exact rfl; exact rfl; exact rfl; exact rfl) | (apply q_add; exact rfl; exact rfl; exact rfl) | (apply q_lss; exact rfl; exact rfl; exact rfl) | (apply q_ixd; exact rfl; exact rfl; exact rfl; exact (ty rfl); exact rfl; exact (by first | omega | (simp; done) | (simp; omega)); exact (by first | omega | (simp; done) | (simp; omega)); exact (by first | rfl | assumption)) | (apply q_ixl; exact rfl; exact rfl; exact rfl; exact (ty rfl); exact rfl; exact rfl; exact rfl; exact (by first | omega | (simp; done) | (simp; omega)); exact (by first | omega | (simp; done) | (simp; omega))) | (apply q_ld1d; exact rfl; exact rfl; exact (ty rfl); exact rfl; exact rfl) | (apply q_ld1p; exact rfl; exact rfl; exact (ty rfl); exact rfl; exact rfl; exact (by first | rfl | assumption | ((try simp only [Nat.zero_add]); refine List.getElem?_set_self ?_; (try simp only [List.length_set]); assumption)); exact rfl))
    | (show SQ _ _ _ _ _ _ _ _; (first | (apply q_buildn; exact rfl; exact (ty rfl); exact rfl; exact rfl; exact rfl; exact rfl; exact rfl; exact rfl; exact rfl) | (apply q_apo_s; exact rfl; exact rfl; exact rfl; exact (ty rfl); exact rfl; exact rfl; exact (by first | omega | (simp; done) | (simp; omega)); exact (by first | exact List.take_of_length_le (by first | omega | (simp; done) | (simp; omega)) | rfl); exact (ty rfl); exact rfl; exact rfl; exact (by first | omega | (simp; done) | (simp; omega)); exact (by first | exact dt_full (by first | omega | (simp; done) | (simp; omega)) | assumption | rfl); exact rfl; exact (by first | omega | (simp; done) | (simp; omega)); exact (by first | omega | (simp; done) | (simp; omega)); exact (by first | assumption | exact rfl))); (try simp only [put, rowsOf, plR, List.all_cons, selE, ovr, setH, del, cellsA, splice, isV, List.nil_append, List.cons_append, List.map_cons, List.map_nil, List.length_cons, List.length_nil, List.set_cons_zero, List.set_cons_succ, List.take_succ_cons, List.take_zero, List.take_nil, List.drop_succ_cons, List.drop_zero, List.drop_nil, List.append_nil, List.all_cons, List.all_nil, Bool.and_true, Bool.true_and, Bool.and_false, Bool.false_and, Nat.reduceAdd, Nat.zero_add, Nat.add_zero, Nat.reduceEqDiff, if_true, if_false, reduceIte]))
    | (show AW _ _ _ _ _ _ _ _; first | refine aw_region ?_ | (refine aw_seqk ?_; intro K hK) | refine aw_block ?_ | (apply aw_cond_t; exact rfl; exact (by assumption)) | refine aw_skip ?_)
    | refine thn_n ?_
    | (refine hK _ _ _ ?_; clear hK K)
    | refine inb_n ?_)); all_goals (repeat (clear hK K)))
    all_goals (refine ⟨i + 1, fun j => [0, 1, 4].getD j 0, c2, by omega, ?_⟩; (try dsimp only); rw [e1, List.map_append, List.length_append]; exact ⟨by (repeat (refine ⟨by first | exact lk_i rfl rfl | exact lk_i rfl (by (try dsimp only); first | rfl | omega | (rw [IntWalk.i64_in _ (by omega)]; first | rfl | omega | (push_cast; omega)) | (simp; done) | (simp; omega)) | exact lk_r rfl rfl rfl | exact lk_s rfl rfl rfl rfl, ?_⟩)); exact trivial, by (repeat (refine ⟨by first | exact ⟨rfl, rfl, rfl⟩, ?_⟩)); exact trivial, by rfl, by exact pin_0⟩)
  · have b2 : decide ((i : Int) < (ix.length : Int)) = false := by simpa using c2
    obtain rfl : i = ix.length := by omega
    have hS := seriesOutage_ro (outI ls ix ix.length) _ rfl (by omega)
    ((repeat' (first
    | (show SQ _ _ _ _ _ _ _ _; first | apply sq_nil | (apply q_move; exact rfl; exact rfl) | (apply q_assign; exact rfl; exact rfl) | (apply q_lss; exact rfl; exact rfl; exact rfl))
    | (show SQ _ _ _ _ _ _ _ _; (first | (apply q_callU; exact rfl; exact rfl; exact rfl; rotate_left; exact hS _; rotate_right; focus ((repeat' (first | exact FzL.nil | exact (by assumption : FzC _) _ | refine FzL.cons ?_ ?_ | exact Fz.of rfl | exact Fz.nil | exact Fz.emp | (apply Fz.fnC; assumption) | (apply Fz.sl2; exact rfl; exact (by first | omega | (simp; done) | (simp; omega)); first | exact rfl | exact dt_full (by first | omega | (simp; done) | (simp; omega)) | assumption) | apply Fz.agg | (apply Fz.ptrL; exact rfl; first | exact rfl | assumption) | apply Fz.fnL)); done))); (try simp only [put, rowsOf, plR, List.all_cons, selE, ovr, setH, del, cellsA, splice, isV, List.nil_append, List.cons_append, List.map_cons, List.map_nil, List.length_cons, List.length_nil, List.set_cons_zero, List.set_cons_succ, List.take_succ_cons, List.take_zero, List.take_nil, List.drop_succ_cons, List.drop_zero, List.drop_nil, List.append_nil, List.all_cons, List.all_nil, Bool.and_true, Bool.true_and, Bool.and_false, Bool.false_and, Nat.reduceAdd, Nat.zero_add, Nat.add_zero, Nat.reduceEqDiff, if_true, if_false, reduceIte]))
    | (show AW _ _ _ _ _ _ _ _; first | refine aw_region ?_ | (refine aw_seqk ?_; intro K hK) | (apply aw_cond_f; exact rfl; exact (by assumption)) | refine aw_ret ?_ | refine aw_exit ?_)
    | refine thn_n ?_
    | (refine hK _ _ _ ?_; clear hK K)
    | refine thn_e ?_
    | refine inb_same ?_
    | (clear hK K; refine hK _ _ _ ?_; clear hK K))); all_goals (repeat (clear hK K)))
    all_goals exact fin_r (fin_i rfl rfl)
def roV (n : Int) (ls : List Ln) (rd : List Int) : Int := if bkB n ls && rtB n ls rd then outV ls (rtI ls rd rd.length) else 0
def roC (n : Int) (ls : List Ln) (rd : List Int) : Int := if bkB n ls then if rtB n ls rd then 0 else 6 else 1
set_option maxHeartbeats 4000000 in
theorem RouteOutage_ro (n : Int) (ls : List Ln) (rd : List Int) (hn : ls.length ≤ 1048576) (hr : rd.length ≤ 1048576) (k : Nat) :
    RO Try.prog 35 [.agg (bkL n ls), .dsl 1 (rd.map inL)] k (.tup [.v (.int .i64 (roV n ls rd)), .v (.int .i64 (roC n ls rd))]) [] k := by
  refine RO.ofp Try.func35 Try.ntmps35 rfl (goFn_of Try.func35 rfl (by kernel_rfl)) rfl rfl rfl ?_
  have hV := ValidBackhaul_ro n ls hn
  have hb := fun h h2 => linksOf_bad_ro n ls rd h hn hr h2
  have ho := fun h h2 => linksOf_ok_ro n ls rd h hn hr h2
  have hu := fun h h2 => outage_ro n ls rd h hn hr h2
  unfold roV roC
  unfold bkL at hV hb ho hu ⊢
  cases c1 : bkB n ls with
  | false =>
    have b1 : (!bkB n ls) = true := by rw [c1]; rfl
    ((repeat' (first
    | (show SQ _ _ _ _ _ _ _ _; first | apply sq_nil | (apply q_assign; exact rfl; exact rfl) | (apply q_not; exact rfl; exact rfl))
    | (show SQ _ _ _ _ _ _ _ _; (first | (apply q_ldap; exact rfl; exact rfl; exact (ty rfl); exact rfl; exact rfl; exact (by first | rfl | assumption | ((try simp only [Nat.zero_add]); refine List.getElem?_set_self ?_; (try simp only [List.length_set]); assumption)); exact rfl) | (apply q_box; exact rfl; exact rfl; exact rfl) | (apply q_callU; exact rfl; exact rfl; exact rfl; exact FzL.of rfl; exact hV _)); (try simp only [put, rowsOf, plR, List.all_cons, selE, ovr, setH, del, cellsA, splice, isV, List.nil_append, List.cons_append, List.map_cons, List.map_nil, List.length_cons, List.length_nil, List.set_cons_zero, List.set_cons_succ, List.take_succ_cons, List.take_zero, List.take_nil, List.drop_succ_cons, List.drop_zero, List.drop_nil, List.append_nil, List.all_cons, List.all_nil, Bool.and_true, Bool.true_and, Bool.and_false, Bool.false_and, Nat.reduceAdd, Nat.zero_add, Nat.add_zero, Nat.reduceEqDiff, if_true, if_false, reduceIte]))
    | (show AW _ _ _ _ _ _ _ _; first | refine aw_region ?_ | (refine aw_seqk ?_; intro K hK) | (apply aw_cond_t; exact rfl; exact (by assumption)) | refine aw_ret ?_)
    | refine thn_n ?_
    | (refine hK _ _ _ ?_; clear hK K)
    | refine thn_r ?_)); all_goals (repeat (clear hK K)))
    all_goals refine fin_r (fin_p (.r2 _ _ _ _ (.tmp _ _ rfl) (.tmp _ _ rfl)) ?_ rfl rfl rfl)
    all_goals rfl
  | true =>
    have b1 : (!bkB n ls) = false := by rw [c1]; rfl
    have hN := bkB_n c1
    cases c2 : rtB n ls rd with
    | false =>
      ((repeat' (first
    | (show SQ _ _ _ _ _ _ _ _; first | apply sq_nil | (apply q_move; exact rfl; exact rfl) | (apply q_assign; exact rfl; exact rfl) | (apply q_not; exact rfl; exact rfl) | (apply q_ext; exact rfl; exact rfl; exact rfl))
    | (show SQ _ _ _ _ _ _ _ _; (first | (apply q_ldap; exact rfl; exact rfl; exact (ty rfl); exact rfl; exact rfl; exact (by first | rfl | assumption | ((try simp only [Nat.zero_add]); refine List.getElem?_set_self ?_; (try simp only [List.length_set]); assumption)); exact rfl) | (apply q_box; exact rfl; exact rfl; exact rfl) | (apply q_callU; exact rfl; exact rfl; exact rfl; exact FzL.of rfl; exact hV _) | (apply q_callU; exact rfl; exact rfl; exact rfl; exact FzL.of rfl; exact hb hN c2 _)); (try simp only [put, rowsOf, plR, List.all_cons, selE, ovr, setH, del, cellsA, splice, isV, List.nil_append, List.cons_append, List.map_cons, List.map_nil, List.length_cons, List.length_nil, List.set_cons_zero, List.set_cons_succ, List.take_succ_cons, List.take_zero, List.take_nil, List.drop_succ_cons, List.drop_zero, List.drop_nil, List.append_nil, List.all_cons, List.all_nil, Bool.and_true, Bool.true_and, Bool.and_false, Bool.false_and, Nat.reduceAdd, Nat.zero_add, Nat.add_zero, Nat.reduceEqDiff, if_true, if_false, reduceIte]))
    | (show AW _ _ _ _ _ _ _ _; first | refine aw_region ?_ | (refine aw_seqk ?_; intro K hK) | (apply aw_cond_t; exact rfl; exact rfl) | (apply aw_cond_f; exact rfl; exact (by assumption)) | refine aw_ret ?_ | refine aw_skip ?_)
    | refine thn_n ?_
    | (refine hK _ _ _ ?_; clear hK K)
    | refine thn_r ?_)); all_goals (repeat (clear hK K)))
      all_goals refine fin_r (fin_p (.r2 _ _ _ _ (.tmp _ _ rfl) (.tmp _ _ rfl)) ?_ rfl rfl rfl)
      all_goals rfl
    | true =>
      ((repeat' (first
    | (show SQ _ _ _ _ _ _ _ _; first | apply sq_nil | (apply q_move; exact rfl; exact rfl) | (apply q_assign; exact rfl; exact rfl) | (apply q_not; exact rfl; exact rfl) | (apply q_ext; exact rfl; exact rfl; exact rfl))
    | (show SQ _ _ _ _ _ _ _ _; (first | (apply q_ldap; exact rfl; exact rfl; exact (ty rfl); exact rfl; exact rfl; exact (by first | rfl | assumption | ((try simp only [Nat.zero_add]); refine List.getElem?_set_self ?_; (try simp only [List.length_set]); assumption)); exact rfl) | (apply q_box; exact rfl; exact rfl; exact rfl) | (apply q_callU; exact rfl; exact rfl; exact rfl; exact FzL.of rfl; exact hV _) | (apply q_callU; exact rfl; exact rfl; exact rfl; exact FzL.of rfl; exact ho hN c2 _) | (apply q_callU; exact rfl; exact rfl; exact rfl; exact FzL.of rfl; exact hu hN c2 _)); (try simp only [put, rowsOf, plR, List.all_cons, selE, ovr, setH, del, cellsA, splice, isV, List.nil_append, List.cons_append, List.map_cons, List.map_nil, List.length_cons, List.length_nil, List.set_cons_zero, List.set_cons_succ, List.take_succ_cons, List.take_zero, List.take_nil, List.drop_succ_cons, List.drop_zero, List.drop_nil, List.append_nil, List.all_cons, List.all_nil, Bool.and_true, Bool.true_and, Bool.and_false, Bool.false_and, Nat.reduceAdd, Nat.zero_add, Nat.add_zero, Nat.reduceEqDiff, if_true, if_false, reduceIte]))
    | (show AW _ _ _ _ _ _ _ _; first | refine aw_region ?_ | (refine aw_seqk ?_; intro K hK) | (apply aw_cond_f; exact rfl; exact rfl) | (apply aw_cond_f; exact rfl; exact (by assumption)) | refine aw_ret ?_ | refine aw_skip ?_)
    | refine thn_n ?_
    | (refine hK _ _ _ ?_; clear hK K))); all_goals (repeat (clear hK K)))
      all_goals refine fin_r (fin_p (.r2 _ _ _ _ (.tmp _ _ rfl) (.tmp _ _ rfl)) ?_ rfl rfl rfl)
      all_goals rfl
end Go.Proofs.Ytglfcaioapdiaaa.Bk

namespace Go.Proofs.Ytglfcaioapdiaaa.Bk
open Go Go.RowKit Go.Proofs.Ytglfcaioapdiaaa.Aw
set_option linter.unusedSimpArgs false
set_option linter.unusedVariables false
attribute [local irreducible] AW SQ Step RO RC DE Thn InB
def parS (w p : Int) : Int := IntKind.i64.wrap ((IntKind.i64.wrap (IntKind.i64.wrap (IntKind.i64.wrap (w * p) + 1000000) - 1)).tdiv 1000000)
def parV (xs : List Int) (i : Nat) : Int := (xs.take i).foldl parS 1000000
theorem parV_succ {xs : List Int} {i : Nat} (h : i < xs.length) : parV xs (i + 1) = parS (parV xs i) xs[i] := by
  rw [parV, List.take_succ_eq_append_getElem h, List.foldl_append]; rfl
set_option maxHeartbeats 4000000 in
theorem divUp_ro (a : Int) (k : Nat) : RO Try.prog 97 [.v (.int .i64 a), .v (.int .i64 1000000)] k (.v (.int .i64 (IntKind.i64.wrap ((IntKind.i64.wrap (IntKind.i64.wrap (a + 1000000) - 1)).tdiv 1000000)))) [] k := by
  refine RO.ofv' Try.func97 Try.ntmps97 rfl (goFn_of Try.func97 rfl (by kernel_rfl)) rfl rfl ?_
  ((repeat' (first
    | (show SQ _ _ _ _ _ _ _ _; first | apply sq_nil | (apply q_move; exact rfl; exact rfl) | (apply q_assign; exact rfl; exact rfl) | (apply q_add; exact rfl; exact rfl; exact rfl) | (apply q_sub; exact rfl; exact rfl; exact rfl) | (apply q_quo; exact rfl; exact rfl; exact rfl; exact (by first | decide | omega)))
    | (show AW _ _ _ _ _ _ _ _; first | refine aw_region ?_ | (refine aw_seqk ?_; intro K hK) | refine aw_ret ?_)
    | refine thn_n ?_
    | (refine hK _ _ _ ?_; clear hK K))); all_goals (repeat (clear hK K)))
  all_goals exact fin_r (fin_i rfl rfl)
set_option maxHeartbeats 4000000 in
theorem outagesCode_ro (xs : List Int) (hn : xs.length ≤ 64) (hx : (xs.any fun x => !inB x 0 1000000) = false) (k : Nat) : RO Try.prog 96 [.dsl 1 (xs.map inL)] k (.v (.int .i64 0)) [] k := by
  have b1 : decide ((64 : Int) < ((xs.map inL).length : Int)) = false := by simp; omega
  have hA := allWithin_ro xs (xs.map inL) 0 1000000 rfl (by omega)
  have b2 : (!(!xs.any fun x => !inB x 0 1000000)) = false := by rw [hx]; rfl
  refine RO.ofv' Try.func96 Try.ntmps96 rfl (goFn_of Try.func96 rfl (by kernel_rfl)) rfl rfl ?_
  ((repeat' (first
    | (show SQ _ _ _ _ _ _ _ _; first | apply sq_nil | (apply q_move; exact rfl; exact rfl) | (apply q_assign; exact rfl; exact rfl) | (apply q_not; exact rfl; exact rfl) | (apply q_lend; exact rfl; exact rfl; exact (ty rfl); exact rfl) | (apply q_gtr; exact rfl; exact rfl; exact rfl))
    | (show SQ _ _ _ _ _ _ _ _; (first | (apply q_callU; exact rfl; exact rfl; exact rfl; exact FzL.of rfl; exact hA _)); (try simp only [put, rowsOf, plR, List.all_cons, selE, ovr, setH, del, cellsA, splice, isV, List.nil_append, List.cons_append, List.map_cons, List.map_nil, List.length_cons, List.length_nil, List.set_cons_zero, List.set_cons_succ, List.take_succ_cons, List.take_zero, List.take_nil, List.drop_succ_cons, List.drop_zero, List.drop_nil, List.append_nil, List.all_cons, List.all_nil, Bool.and_true, Bool.true_and, Bool.and_false, Bool.false_and, Nat.reduceAdd, Nat.zero_add, Nat.add_zero, Nat.reduceEqDiff, if_true, if_false, reduceIte]))
    | (show AW _ _ _ _ _ _ _ _; first | refine aw_region ?_ | (refine aw_seqk ?_; intro K hK) | refine aw_block ?_ | (apply aw_cond_f; exact rfl; exact (by assumption)) | refine aw_ret ?_ | refine aw_skip ?_)
    | refine thn_n ?_
    | (refine hK _ _ _ ?_; clear hK K)
    | refine inb_n ?_)); all_goals (repeat (clear hK K)))
  all_goals exact fin_r (fin_i rfl rfl)
set_option maxHeartbeats 4000000 in
theorem ParallelOutage_ro (xs : List Int) (hn : xs.length ≤ 64) (hx : (xs.any fun x => !inB x 0 1000000) = false) (k : Nat) : RO Try.prog 58 [.dsl 1 (xs.map inL)] k (.tup [.v (.int .i64 (parV xs xs.length)), .v (.int .i64 0)]) [] k := by
  have hC := outagesCode_ro xs hn hx
  have b1 : ((0 : Int) != 0) = false := by simp
  refine RO.ofp Try.func58 Try.ntmps58 rfl (goFn_of Try.func58 rfl (by kernel_rfl)) rfl rfl rfl ?_
  ((repeat' (first
    | (show SQ _ _ _ _ _ _ _ _; first | apply sq_nil | (apply q_move; exact rfl; exact rfl) | (apply q_assign; exact rfl; exact rfl) | (apply q_lend; exact rfl; exact rfl; exact (ty rfl); exact rfl) | (apply q_neq; exact rfl; exact rfl; exact rfl))
    | (show SQ _ _ _ _ _ _ _ _; (first | (apply q_callU; exact rfl; exact rfl; exact rfl; exact FzL.of rfl; exact hC _)); (try simp only [put, rowsOf, plR, List.all_cons, selE, ovr, setH, del, cellsA, splice, isV, List.nil_append, List.cons_append, List.map_cons, List.map_nil, List.length_cons, List.length_nil, List.set_cons_zero, List.set_cons_succ, List.take_succ_cons, List.take_zero, List.take_nil, List.drop_succ_cons, List.drop_zero, List.drop_nil, List.append_nil, List.all_cons, List.all_nil, Bool.and_true, Bool.true_and, Bool.and_false, Bool.false_and, Nat.reduceAdd, Nat.zero_add, Nat.add_zero, Nat.reduceEqDiff, if_true, if_false, reduceIte]))
    | (show AW _ _ _ _ _ _ _ _; first | refine aw_region ?_ | (refine aw_seqk ?_; intro K hK) | refine aw_block ?_ | (apply aw_cond_f; exact rfl; exact rfl) | refine aw_skip ?_)
    | refine thn_n ?_
    | (refine hK _ _ _ ?_; clear hK K))); all_goals (repeat (clear hK K)))
  refine aw_loop (ρ := id) (ι := Nat) (fun i => ([(15, .v (.int .i64 i)), (14, .v (.int .i64 xs.length)), (13, .dsl 1 (xs.map inL)), (5, .v (.int .i64 (parV xs i)))], [], 0))
    (fun i => i ≤ xs.length) (fun i => xs.length - i) 0 (Nat.zero_le _) ⟨by (repeat (refine ⟨by first | exact lk_i rfl rfl | exact lk_i rfl (by (try dsimp only); first | rfl | omega | (rw [IntWalk.i64_in _ (by omega)]; first | rfl | omega | (push_cast; omega)) | (simp; done) | (simp; omega)) | exact lk_d rfl rfl, ?_⟩)); exact trivial, by exact trivial, by rfl, by exact pin_0⟩ ?_
  intro i hi
  by_cases c2 : i < xs.length
  · have b2 : decide ((i : Int) < (xs.length : Int)) = true := by simpa using c2
    have hrow : (xs.map inL)[((i : Int)).toNat]? = some (inL xs[i]) := by simp [c2]
    rw [inL_eq] at hrow
    have e1 := parV_succ c2
    ((repeat' (first
    | (show SQ _ _ _ _ _ _ _ _; first | apply sq_nil | (apply q_move; exact rfl; exact rfl) | (apply q_assign; exact rfl; exact rfl) | (apply q_add; exact rfl; exact rfl; exact rfl) | (apply q_mul; exact rfl; exact rfl; exact rfl) | (apply q_lss; exact rfl; exact rfl; exact rfl) | (apply q_ixd; exact rfl; exact rfl; exact rfl; exact (ty rfl); exact rfl; exact (by first | omega | (simp; done) | (simp; omega)); exact (by first | omega | (simp; done) | (simp; omega)); exact (by first | rfl | assumption)) | (apply q_ld1d; exact rfl; exact rfl; exact (ty rfl); exact rfl; exact rfl))
    | (show SQ _ _ _ _ _ _ _ _; (first | (apply q_callU; exact rfl; exact rfl; exact rfl; exact FzL.of rfl; exact divUp_ro _ _)); (try simp only [put, rowsOf, plR, List.all_cons, selE, ovr, setH, del, cellsA, splice, isV, List.nil_append, List.cons_append, List.map_cons, List.map_nil, List.length_cons, List.length_nil, List.set_cons_zero, List.set_cons_succ, List.take_succ_cons, List.take_zero, List.take_nil, List.drop_succ_cons, List.drop_zero, List.drop_nil, List.append_nil, List.all_cons, List.all_nil, Bool.and_true, Bool.true_and, Bool.and_false, Bool.false_and, Nat.reduceAdd, Nat.zero_add, Nat.add_zero, Nat.reduceEqDiff, if_true, if_false, reduceIte]))
    | (show AW _ _ _ _ _ _ _ _; first | refine aw_region ?_ | (refine aw_seqk ?_; intro K hK) | refine aw_block ?_ | (apply aw_cond_t; exact rfl; exact (by assumption)) | refine aw_skip ?_)
    | refine thn_n ?_
    | (refine hK _ _ _ ?_; clear hK K)
    | refine inb_n ?_)); all_goals (repeat (clear hK K)))
    all_goals (refine ⟨i + 1, id, c2, by omega, ?_⟩; (try dsimp only); rw [e1]; exact ⟨by (repeat (refine ⟨by first | exact lk_i rfl rfl | exact lk_i rfl (by (try dsimp only); first | rfl | omega | (rw [IntWalk.i64_in _ (by omega)]; first | rfl | omega | (push_cast; omega)) | (simp; done) | (simp; omega)) | exact lk_d rfl rfl, ?_⟩)); exact trivial, by exact trivial, by rfl, by exact pin_0⟩)
  · have b2 : decide ((i : Int) < (xs.length : Int)) = false := by simpa using c2
    obtain rfl : i = xs.length := by omega
    ((repeat' (first
    | (show SQ _ _ _ _ _ _ _ _; first | apply sq_nil | (apply q_move; exact rfl; exact rfl) | (apply q_assign; exact rfl; exact rfl) | (apply q_lss; exact rfl; exact rfl; exact rfl))
    | (show AW _ _ _ _ _ _ _ _; first | refine aw_region ?_ | (refine aw_seqk ?_; intro K hK) | (apply aw_cond_f; exact rfl; exact (by assumption)) | refine aw_ret ?_ | refine aw_exit ?_)
    | refine thn_n ?_
    | (refine hK _ _ _ ?_; clear hK K)
    | refine thn_e ?_
    | refine inb_same ?_
    | (clear hK K; refine hK _ _ _ ?_; clear hK K))); all_goals (repeat (clear hK K)))
    all_goals refine fin_r (fin_p (.r2 _ _ _ _ (.tmp _ _ rfl) (.tmp _ _ rfl)) ?_ rfl rfl rfl)
    all_goals rfl
theorem serS_in {w p : Int} (hw : 0 ≤ w ∧ w ≤ 1000000) (hp : 0 ≤ p ∧ p ≤ 1000000) : 0 ≤ serS w p ∧ serS w p ≤ 1000000 := by
  unfold serS
  rw [IntWalk.i64_in (1000000 - p) (by omega)]
  have h1 : 0 ≤ w * (1000000 - p) := Int.mul_nonneg hw.1 (by omega)
  have h2 : w * (1000000 - p) ≤ 1000000 * 1000000 := Int.mul_le_mul hw.2 (by omega) (by omega) (by omega)
  rw [IntWalk.i64_in (w * (1000000 - p)) (by omega)]
  rw [Int.tdiv_eq_ediv_of_nonneg h1]
  have h3 := Int.ediv_nonneg h1 (show (0 : Int) ≤ 1000000 by omega)
  have h4 : w * (1000000 - p) / 1000000 ≤ 1000000 := Int.ediv_le_of_le_mul (by omega) (by omega)
  rw [IntWalk.i64_in _ (by omega)]
  exact ⟨h3, h4⟩
theorem serF_in : ∀ (xs : List Int) (w : Int), (∀ x ∈ xs, 0 ≤ x ∧ x ≤ 1000000) → 0 ≤ w ∧ w ≤ 1000000 → 0 ≤ xs.foldl serS w ∧ xs.foldl serS w ≤ 1000000
  | [], w, _, hw => hw
  | x :: xs, w, h, hw => serF_in xs _ (fun y hy => h y (List.mem_cons_of_mem _ hy)) (serS_in hw (h x List.mem_cons_self))
theorem outV_in {n : Int} {ls : List Ln} {ix : List Int} (hL : LnsOk n ls) (hix : ∀ x ∈ ix, 0 ≤ x ∧ x < ls.length) : 0 ≤ outV ls ix ∧ outV ls ix ≤ 1000000 := by
  unfold outV serV
  rw [List.take_length]
  have h := serF_in (outI ls ix ix.length) 1000000 (fun y hy => by
    simp only [outI, List.take_length, List.mem_map] at hy
    obtain ⟨x, hx, rfl⟩ := hy
    have h1 := hix x hx
    have h2 : ls.getD x.toNat lnz ∈ ls := by simp [List.getD, show x.toNat < ls.length by omega]
    exact (hL _ h2).2.2) (by omega)
  rw [IntWalk.i64_in _ (by omega)]
  omega
def poV (n : Int) (ls : List Ln) (a b : Int) : Int := parV [outV ls (twI n ls a b), outV ls (rtI ls (rtL n (twR n ls a b) a b) (rtL n (twR n ls a b) a b).length)] 2
theorem twR_rtB {n : Int} {ls : List Ln} {a b : Int} (hL : LnsOk n ls) (hn : n ≤ 12) (ha : 0 ≤ a ∧ a < n) (hb : 0 ≤ b ∧ b < n) (hh2 : fh (farR n (twR n ls a b) b) a = true) : rtB n ls (rtL n (twR n ls a b) a b) = true := by
  have hR := restL_ok (ix := twI n ls a b) hL
  have hW := FW.of (to := b) (ls := twR n ls a b) hR hn hb
  have hbd := hW.bd hh2
  have hP := (hW.way (fl (farR n (twR n ls a b) b) a).toNat hh2 (by omega)).1
  have up : ∀ {s : Int} {p : List Int} {c t : Int}, Pt (EL (twR n ls a b)) s p c t → Pt (EL ls) s p c t := fun h => by
    induction h with
    | one => exact .one
    | step h he hy ih =>
      refine .step ih ?_ hy
      obtain ⟨l, hl, hor, e⟩ := he
      obtain ⟨i, hi, _, rfl⟩ := restL_mem hl
      exact ⟨ls[i], List.getElem_mem hi, hor, e⟩
  exact Pt.rtB hL ha (up hP)
section
variable (n : Int) (ls : List Ln) (a b : Int) (hn : ls.length ≤ 1048576)
include hn
set_option maxHeartbeats 4000000 in
theorem Pair_bad_ro (hc : codeV n ls [a, b] ≠ 0) (k : Nat) : RO Try.prog 24 [.agg (bkL n ls), .v (.int .i64 a), .v (.int .i64 b)] k (.tup [.v (.int .i64 0), .v (.int .i64 (codeV n ls [a, b]))]) [] k := by
  have hC := code2_ro n ls a b hn
  have b1 : (codeV n ls [a, b] != 0) = true := by simpa using hc
  generalize codeV n ls [a, b] = c at *
  unfold bkL at hC ⊢
  refine RO.ofp Try.func24 Try.ntmps24 rfl (goFn_of Try.func24 rfl (by kernel_rfl)) rfl rfl rfl ?_
  ((repeat' (first
    | (show SQ _ _ _ _ _ _ _ _; first | apply sq_nil | (apply q_move; exact rfl; exact rfl) | (apply q_assign; exact rfl; exact rfl) | (apply q_neq; exact rfl; exact rfl; exact rfl))
    | (show SQ _ _ _ _ _ _ _ _; (first | (apply q_ldap; exact rfl; exact rfl; exact (ty rfl); exact rfl; exact rfl; exact (by first | rfl | assumption | ((try simp only [Nat.zero_add]); refine List.getElem?_set_self ?_; (try simp only [List.length_set]); assumption)); exact rfl) | (apply q_box; exact rfl; exact rfl; exact rfl) | (apply q_buildn; exact rfl; exact (ty rfl); exact rfl; exact rfl; exact rfl; exact rfl; exact rfl; exact rfl; exact rfl) | (apply q_callU; exact rfl; exact rfl; exact rfl; exact FzL.of rfl; exact hC _)); (try simp only [put, rowsOf, plR, List.all_cons, selE, ovr, setH, del, cellsA, splice, isV, List.nil_append, List.cons_append, List.map_cons, List.map_nil, List.length_cons, List.length_nil, List.set_cons_zero, List.set_cons_succ, List.take_succ_cons, List.take_zero, List.take_nil, List.drop_succ_cons, List.drop_zero, List.drop_nil, List.append_nil, List.all_cons, List.all_nil, Bool.and_true, Bool.true_and, Bool.and_false, Bool.false_and, Nat.reduceAdd, Nat.zero_add, Nat.add_zero, Nat.reduceEqDiff, if_true, if_false, reduceIte]))
    | (show AW _ _ _ _ _ _ _ _; first | refine aw_region ?_ | (refine aw_seqk ?_; intro K hK) | refine aw_block ?_ | (apply aw_cond_t; exact rfl; exact (by assumption)) | refine aw_ret ?_)
    | refine thn_n ?_
    | (refine hK _ _ _ ?_; clear hK K)
    | refine thn_r ?_
    | refine inb_r ?_)); all_goals (repeat (clear hK K)))
  all_goals refine fin_r (fin_p (.r2 _ _ _ _ (.tmp _ _ rfl) (.tmp _ _ rfl)) ?_ rfl rfl rfl)
  all_goals rfl
set_option maxHeartbeats 4000000 in
theorem Pair_same_ro (hc : codeV n ls [a, b] = 0) (he : a = b) (k : Nat) : RO Try.prog 24 [.agg (bkL n ls), .v (.int .i64 a), .v (.int .i64 b)] k (.tup [.v (.int .i64 0), .v (.int .i64 6)]) [] k := by
  have hC := code2_ro n ls a b hn
  rw [hc] at hC
  have b1 : ((0 : Int) != 0) = false := by simp
  have b2 : (a == b) = true := by simpa using he
  unfold bkL at hC ⊢
  refine RO.ofp Try.func24 Try.ntmps24 rfl (goFn_of Try.func24 rfl (by kernel_rfl)) rfl rfl rfl ?_
  ((repeat' (first
    | (show SQ _ _ _ _ _ _ _ _; first | apply sq_nil | (apply q_move; exact rfl; exact rfl) | (apply q_assign; exact rfl; exact rfl) | (apply q_eql; exact rfl; exact rfl; exact rfl) | (apply q_neq; exact rfl; exact rfl; exact rfl))
    | (show SQ _ _ _ _ _ _ _ _; (first | (apply q_ldap; exact rfl; exact rfl; exact (ty rfl); exact rfl; exact rfl; exact (by first | rfl | assumption | ((try simp only [Nat.zero_add]); refine List.getElem?_set_self ?_; (try simp only [List.length_set]); assumption)); exact rfl) | (apply q_box; exact rfl; exact rfl; exact rfl) | (apply q_buildn; exact rfl; exact (ty rfl); exact rfl; exact rfl; exact rfl; exact rfl; exact rfl; exact rfl; exact rfl) | (apply q_callU; exact rfl; exact rfl; exact rfl; exact FzL.of rfl; exact hC _)); (try simp only [put, rowsOf, plR, List.all_cons, selE, ovr, setH, del, cellsA, splice, isV, List.nil_append, List.cons_append, List.map_cons, List.map_nil, List.length_cons, List.length_nil, List.set_cons_zero, List.set_cons_succ, List.take_succ_cons, List.take_zero, List.take_nil, List.drop_succ_cons, List.drop_zero, List.drop_nil, List.append_nil, List.all_cons, List.all_nil, Bool.and_true, Bool.true_and, Bool.and_false, Bool.false_and, Nat.reduceAdd, Nat.zero_add, Nat.add_zero, Nat.reduceEqDiff, if_true, if_false, reduceIte]))
    | (show AW _ _ _ _ _ _ _ _; first | refine aw_region ?_ | (refine aw_seqk ?_; intro K hK) | refine aw_block ?_ | (apply aw_cond_f; exact rfl; exact rfl) | (apply aw_cond_t; exact rfl; exact (by assumption)) | refine aw_ret ?_)
    | refine thn_n ?_
    | (refine hK _ _ _ ?_; clear hK K)
    | refine thn_r ?_
    | refine inb_r ?_)); all_goals (repeat (clear hK K)))
  all_goals refine fin_r (fin_p (.r2 _ _ _ _ (.tmp _ _ rfl) (.tmp _ _ rfl)) ?_ rfl rfl rfl)
  all_goals rfl
set_option maxHeartbeats 4000000 in
theorem Pair_none_ro (hc : codeV n ls [a, b] = 0) (he : a ≠ b) (hh : fh (farR n ls b) a = false ∨ (fh (farR n ls b) a = true ∧ fh (farR n (twR n ls a b) b) a = false)) (k : Nat) : RO Try.prog 24 [.agg (bkL n ls), .v (.int .i64 a), .v (.int .i64 b)] k (.tup [.v (.int .i64 0), .v (.int .i64 3)]) [] k := by
  have hC := code2_ro n ls a b hn
  obtain ⟨hN, hL, ha, hb, _⟩ := codeV_ok hc
  rw [hc] at hC
  have b1 : ((0 : Int) != 0) = false := by simp
  have b2 : (a == b) = false := by simpa using he
  rcases hh with hh | ⟨hh, hh2⟩
  · have hT := twoRoutes_nil_ro n ls a b hN hn hL ha hb hh
    unfold bkL at hC hT ⊢
    refine RO.ofp Try.func24 Try.ntmps24 rfl (goFn_of Try.func24 rfl (by kernel_rfl)) rfl rfl rfl ?_
    ((repeat' (first
    | (show SQ _ _ _ _ _ _ _ _; first | apply sq_nil | (apply q_move; exact rfl; exact rfl) | (apply q_assign; exact rfl; exact rfl) | (apply q_ext; exact rfl; exact rfl; exact rfl) | (apply q_eql; exact rfl; exact rfl; exact rfl) | (apply q_neq; exact rfl; exact rfl; exact rfl) | (apply q_nil_ev; exact rfl; exact rfl; exact rfl; exact (ty rfl); exact rfl))
    | (show SQ _ _ _ _ _ _ _ _; (first | (apply q_ldap; exact rfl; exact rfl; exact (ty rfl); exact rfl; exact rfl; exact (by first | rfl | assumption | ((try simp only [Nat.zero_add]); refine List.getElem?_set_self ?_; (try simp only [List.length_set]); assumption)); exact rfl) | (apply q_box; exact rfl; exact rfl; exact rfl) | (apply q_buildn; exact rfl; exact (ty rfl); exact rfl; exact rfl; exact rfl; exact rfl; exact rfl; exact rfl; exact rfl) | (apply q_callU; exact rfl; exact rfl; exact rfl; exact FzL.of rfl; exact hC _) | (apply q_callU; exact rfl; exact rfl; exact rfl; exact FzL.of rfl; exact hT _)); (try simp only [put, rowsOf, plR, List.all_cons, selE, ovr, setH, del, cellsA, splice, isV, List.nil_append, List.cons_append, List.map_cons, List.map_nil, List.length_cons, List.length_nil, List.set_cons_zero, List.set_cons_succ, List.take_succ_cons, List.take_zero, List.take_nil, List.drop_succ_cons, List.drop_zero, List.drop_nil, List.append_nil, List.all_cons, List.all_nil, Bool.and_true, Bool.true_and, Bool.and_false, Bool.false_and, Nat.reduceAdd, Nat.zero_add, Nat.add_zero, Nat.reduceEqDiff, if_true, if_false, reduceIte]))
    | (show AW _ _ _ _ _ _ _ _; first | refine aw_region ?_ | (refine aw_seqk ?_; intro K hK) | refine aw_block ?_ | (apply aw_cond_t; exact rfl; exact rfl) | (apply aw_cond_f; exact rfl; exact rfl) | (apply aw_cond_f; exact rfl; exact (by assumption)) | refine aw_ret ?_ | refine aw_skip ?_)
    | refine thn_n ?_
    | (refine hK _ _ _ ?_; clear hK K)
    | refine thn_r ?_
    | refine inb_n ?_)); all_goals (repeat (clear hK K)))
    all_goals refine fin_r (fin_p (.r2 _ _ _ _ (.tmp _ _ rfl) (.tmp _ _ rfl)) ?_ rfl rfl rfl)
    all_goals rfl
  · have hT := twoRoutes_none_ro n ls a b hN hn hL ha hb hh hh2
    unfold bkL at hC hT ⊢
    refine RO.ofp Try.func24 Try.ntmps24 rfl (goFn_of Try.func24 rfl (by kernel_rfl)) rfl rfl rfl ?_
    ((repeat' (first
    | (show SQ _ _ _ _ _ _ _ _; first | apply sq_nil | (apply q_move; exact rfl; exact rfl) | (apply q_assign; exact rfl; exact rfl) | (apply q_ext; exact rfl; exact rfl; exact rfl) | (apply q_eql; exact rfl; exact rfl; exact rfl) | (apply q_neq; exact rfl; exact rfl; exact rfl) | (apply q_nil_ev; exact rfl; exact rfl; exact rfl; exact (ty rfl); exact rfl))
    | (show SQ _ _ _ _ _ _ _ _; (first | (apply q_ldap; exact rfl; exact rfl; exact (ty rfl); exact rfl; exact rfl; exact (by first | rfl | assumption | ((try simp only [Nat.zero_add]); refine List.getElem?_set_self ?_; (try simp only [List.length_set]); assumption)); exact rfl) | (apply q_box; exact rfl; exact rfl; exact rfl) | (apply q_buildn; exact rfl; exact (ty rfl); exact rfl; exact rfl; exact rfl; exact rfl; exact rfl; exact rfl; exact rfl) | (apply q_callU; exact rfl; exact rfl; exact rfl; exact FzL.of rfl; exact hC _) | (apply q_callU; exact rfl; exact rfl; exact rfl; exact FzL.of rfl; exact hT _)); (try simp only [put, rowsOf, plR, List.all_cons, selE, ovr, setH, del, cellsA, splice, isV, List.nil_append, List.cons_append, List.map_cons, List.map_nil, List.length_cons, List.length_nil, List.set_cons_zero, List.set_cons_succ, List.take_succ_cons, List.take_zero, List.take_nil, List.drop_succ_cons, List.drop_zero, List.drop_nil, List.append_nil, List.all_cons, List.all_nil, Bool.and_true, Bool.true_and, Bool.and_false, Bool.false_and, Nat.reduceAdd, Nat.zero_add, Nat.add_zero, Nat.reduceEqDiff, if_true, if_false, reduceIte]))
    | (show AW _ _ _ _ _ _ _ _; first | refine aw_region ?_ | (refine aw_seqk ?_; intro K hK) | refine aw_block ?_ | (apply aw_cond_t; exact rfl; exact rfl) | (apply aw_cond_f; exact rfl; exact rfl) | (apply aw_cond_f; exact rfl; exact (by assumption)) | refine aw_ret ?_ | refine aw_skip ?_)
    | refine thn_n ?_
    | (refine hK _ _ _ ?_; clear hK K)
    | refine thn_r ?_
    | refine inb_n ?_)); all_goals (repeat (clear hK K)))
    all_goals refine fin_r (fin_p (.r2 _ _ _ _ (.tmp _ _ rfl) (.tmp _ _ rfl)) ?_ rfl rfl rfl)
    all_goals rfl
set_option maxHeartbeats 4000000 in
theorem Pair_some_ro (hc : codeV n ls [a, b] = 0) (he : a ≠ b) (hh : fh (farR n ls b) a = true) (hh2 : fh (farR n (twR n ls a b) b) a = true) (k : Nat) : RO Try.prog 24 [.agg (bkL n ls), .v (.int .i64 a), .v (.int .i64 b)] k (.tup [.v (.int .i64 (poV n ls a b)), .v (.int .i64 0)]) [] k := by
  have hC := code2_ro n ls a b hn
  obtain ⟨hN, hL, ha, hb, _⟩ := codeV_ok hc
  rw [hc] at hC
  have b1 : ((0 : Int) != 0) = false := by simp
  have b2 : (a == b) = false := by simpa using he
  have hT := twoRoutes_both_ro n ls a b hN hn hL ha hb hh hh2
  have h0 : 0 < rtN n (twR n ls a b) a b := Nat.succ_pos _
  have l1 := rtL_len n ls a b
  have l2 := rtL_len n (twR n ls a b) a b
  have e1 := rtL_le hL hN.2 hb hh
  have e2 := rtL_le (restL_ok (ix := twI n ls a b) hL) hN.2 hb hh2
  change rtN n (twR n ls a b) a b ≤ 12 at e2
  have r1 := rtL_rtB hL hN.2 ha hb hh
  have r2 := twR_rtB hL hN.2 ha hb hh2
  have o1 := outage_ro n ls (rtL n ls a b) hN hn (by omega) r1
  have o2 := outage_ro n ls (rtL n (twR n ls a b) a b) hN hn (by omega) r2
  have i1 := outV_in hL (rtI_in r1)
  have i2 := outV_in hL (rtI_in r2)
  unfold poV
  have e3 : rtI ls (rtL n ls a b) (rtL n ls a b).length = twI n ls a b := rfl
  rw [e3] at o1 i1
  rw [← l1, ← l2] at hT
  rw [← l2] at h0
  generalize rtL n ls a b = p1 at *
  generalize rtL n (twR n ls a b) a b = p2 at *
  generalize outV ls (twI n ls a b) = x at *
  generalize outV ls (rtI ls p2 p2.length) = y at *
  have hP : ∀ k, RO Try.prog 58 [.dsl 1 [[.v (.int .i64 x)], [.v (.int .i64 y)]]] k (.tup [.v (.int .i64 (parV [x, y] 2)), .v (.int .i64 0)]) [] k := ParallelOutage_ro [x, y] (by simp) (by simp [inB]; omega)
  unfold bkL at hC hT o1 o2 ⊢
  refine RO.ofp Try.func24 Try.ntmps24 rfl (goFn_of Try.func24 rfl (by kernel_rfl)) rfl rfl rfl ?_
  ((repeat' (first
    | (show SQ _ _ _ _ _ _ _ _; first | apply sq_nil | (apply q_move; exact rfl; exact rfl) | (apply q_assign; exact rfl; exact rfl) | (apply q_ext; exact rfl; exact rfl; exact rfl) | (apply q_eql; exact rfl; exact rfl; exact rfl) | (apply q_neq; exact rfl; exact rfl; exact rfl) | (apply q_nil_el; exact rfl; exact rfl; exact rfl; exact (ty rfl); exact rfl; exact (by first | omega | (simp; done) | (simp; omega))))
    | (show SQ _ _ _ _ _ _ _ _; (first | (apply q_ldap; exact rfl; exact rfl; exact (ty rfl); exact rfl; exact rfl; exact (by first | rfl | assumption | ((try simp only [Nat.zero_add]); refine List.getElem?_set_self ?_; (try simp only [List.length_set]); assumption)); exact rfl) | (apply q_box; exact rfl; exact rfl; exact rfl) | (apply q_buildn; exact rfl; exact (ty rfl); exact rfl; exact rfl; exact rfl; exact rfl; exact rfl; exact rfl; exact rfl) | (apply q_callU; exact rfl; exact rfl; exact rfl; exact FzL.of rfl; exact hC _) | (apply q_callU; exact rfl; exact rfl; exact rfl; exact FzL.of rfl; exact hT _)); (try simp only [put, rowsOf, plR, List.all_cons, selE, ovr, setH, del, cellsA, splice, isV, List.nil_append, List.cons_append, List.map_cons, List.map_nil, List.length_cons, List.length_nil, List.set_cons_zero, List.set_cons_succ, List.take_succ_cons, List.take_zero, List.take_nil, List.drop_succ_cons, List.drop_zero, List.drop_nil, List.append_nil, List.all_cons, List.all_nil, Bool.and_true, Bool.true_and, Bool.and_false, Bool.false_and, Nat.reduceAdd, Nat.zero_add, Nat.add_zero, Nat.reduceEqDiff, if_true, if_false, reduceIte]))
    | (show DE _ _ _ _ _ _ _ _ _ _ _ _; first | (apply e_move; exact rfl; exact rfl; exact rfl) | (apply e_assign; exact rfl; exact rfl; exact rfl) | (apply e_ext; exact rfl; exact rfl; exact rfl; exact rfl))
    | (show DE _ _ _ _ _ _ _ _ _ _ _ _; (first | (apply dr_nil; exact trivial) | (apply e_ldap; exact rfl; exact rfl; exact (ty rfl); exact rfl; exact rfl; exact (by first | rfl | assumption | ((try simp only [Nat.zero_add]); refine List.getElem?_set_self ?_; (try simp only [List.length_set]); assumption)); exact rfl; exact rfl) | (apply e_buildn; exact rfl; exact (ty rfl); exact rfl; exact rfl; exact rfl; exact rfl; exact rfl; exact rfl; exact rfl; exact rfl) | (apply e_callU; exact rfl; exact rfl; exact rfl; exact FzL.of rfl; exact hP _; exact rfl) | (apply e_callU; exact rfl; exact rfl; exact rfl; rotate_left; exact o1 _; exact rfl; rotate_right; focus ((repeat' (first | exact FzL.nil | exact (by assumption : FzC _) _ | refine FzL.cons ?_ ?_ | exact Fz.of rfl | exact Fz.nil | exact Fz.emp | (apply Fz.fnC; assumption) | (apply Fz.sl2; exact rfl; exact (by first | omega | (simp; done) | (simp; omega)); first | exact rfl | exact dt_full (by first | omega | (simp; done) | (simp; omega)) | assumption) | apply Fz.agg | (apply Fz.ptrL; exact rfl; first | exact rfl | assumption) | apply Fz.fnL)); done)) | (apply e_callU; exact rfl; exact rfl; exact rfl; rotate_left; exact o2 _; exact rfl; rotate_right; focus ((repeat' (first | exact FzL.nil | exact (by assumption : FzC _) _ | refine FzL.cons ?_ ?_ | exact Fz.of rfl | exact Fz.nil | exact Fz.emp | (apply Fz.fnC; assumption) | (apply Fz.sl2; exact rfl; exact (by first | omega | (simp; done) | (simp; omega)); first | exact rfl | exact dt_full (by first | omega | (simp; done) | (simp; omega)) | assumption) | apply Fz.agg | (apply Fz.ptrL; exact rfl; first | exact rfl | assumption) | apply Fz.fnL)); done))); (try simp only [put, rowsOf, plR, List.all_cons, selE, ovr, setH, del, cellsA, splice, isV, List.nil_append, List.cons_append, List.map_cons, List.map_nil, List.length_cons, List.length_nil, List.set_cons_zero, List.set_cons_succ, List.take_succ_cons, List.take_zero, List.take_nil, List.drop_succ_cons, List.drop_zero, List.drop_nil, List.append_nil, List.all_cons, List.all_nil, Bool.and_true, Bool.true_and, Bool.and_false, Bool.false_and, Nat.reduceAdd, Nat.zero_add, Nat.add_zero, Nat.reduceEqDiff, if_true, if_false, reduceIte]))
    | (show AW _ _ _ _ _ _ _ _; first | refine aw_region ?_ | (refine aw_seqk ?_; intro K hK) | refine aw_block ?_ | (apply aw_cond_f; exact rfl; exact rfl) | (apply aw_cond_f; exact rfl; exact (by assumption)) | refine aw_ret ?_ | refine aw_skip ?_ | refine aw_drawE (id := 9) [0, 0, 3, 0, 0, 31, 63, 127, 255, 255, 1023, 2047] [1, 0, 1, 1, 0, 1, 1, 1, 0, 0, 0, 0] mixed (by kernel_rfl) ?_)
    | refine thn_n ?_
    | (refine hK _ _ _ ?_; clear hK K)
    | refine inb_n ?_)); all_goals (repeat (clear hK K)))
  all_goals refine fin_r (fin_p (.r2 _ _ _ _ (.tmp _ _ rfl) (.tmp _ _ rfl)) ?_ rfl rfl rfl)
  all_goals rfl
end
end Go.Proofs.Ytglfcaioapdiaaa.Bk
