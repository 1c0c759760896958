/-
  Two routes, in plain terms: what is left without the first one's links.
-/
import Derived.Test.YtglfcaioapdiaaaRuA
import Derived.Test.YtglfcaioapdiaaaLkD
namespace Go.Proofs.Ytglfcaioapdiaaa.Bk
open Go
set_option linter.unusedSimpArgs false
set_option linter.unusedVariables false

theorem link_at {ls : List Ln} {x y o : Int} (h : EL ls x y o) : 0 ≤ ixG (linkP x y) ls := by
  have := ixG_any (linkP x y) ls
  have h2 : ls.any (linkP x y) = true := by
    obtain ⟨l, hl, hor, _⟩ := h
    refine List.any_eq_true.2 ⟨l, hl, ?_⟩
    unfold linkP
    rcases hor with ⟨a, b⟩ | ⟨a, b⟩ <;> simp [a, b]
  rw [h2] at this
  simpa using this
/-- a way is a route -/
theorem Pt.goodR {n : Int} {ls : List Ln} {s : Int} (hL : LnsOk n ls) (hs : 0 ≤ s ∧ s < n) {p : List Int} {c t : Int} (h : Pt (EL ls) s p c t) : p ≠ [] ∧ p.getLast? = some t ∧ ∀ j, j < p.length → goodR n ls p j = true := by
  induction h with
  | one =>
    refine ⟨by simp, rfl, fun j hj => ?_⟩
    simp at hj
    subst hj
    simp [Bk.goodR, inB]; omega
  | @step p c x y o h he hy ih =>
    obtain ⟨h1, h2, h3⟩ := ih
    refine ⟨by simp, by simp, fun j hj => ?_⟩
    simp only [List.length_append, List.length_singleton] at hj
    have hp0 : 0 < p.length := List.length_pos_iff.2 h1
    by_cases hjl : j < p.length
    · have := h3 j hjl
      have e1 : (p ++ [y]).getD j 0 = p.getD j 0 := by simp [List.getD, List.getElem?_append_left hjl]
      have e2 : (p ++ [y]).take j = p.take j := List.take_append_of_le_length (by omega)
      have e3 : (p ++ [y]).getD (j - 1) 0 = p.getD (j - 1) 0 := by simp [List.getD, List.getElem?_append_left (show j - 1 < p.length by omega)]
      simp only [Bk.goodR, lkAt, e1, e2, e3] at this ⊢
      exact this
    · have hje : j = p.length := by omega
      subst hje
      have e1 : (p ++ [y]).getD p.length 0 = y := by simp [List.getD]
      have e2 : (p ++ [y]).take p.length = p := by simp
      have e3 : (p ++ [y]).getD (p.length - 1) 0 = x := by
        simp only [List.getD, List.getElem?_append_left (show p.length - 1 < p.length by omega)]
        rw [← List.getLast?_eq_getElem?, h2]; rfl
      have hrng := (EL.ok hL he).2.2
      have hl := link_at he
      simp only [Bk.goodR, lkAt, e1, e2, e3, Bool.and_eq_true, Bool.or_eq_true, decide_eq_true_eq]
      refine ⟨⟨by simp [inB]; omega, ?_⟩, .inr hl⟩
      simp only [Bool.not_eq_true', List.any_eq_false, beq_iff_eq]
      exact fun z hz e => hy (e ▸ hz)
theorem Pt.rtB {n : Int} {ls : List Ln} {s : Int} (hL : LnsOk n ls) (hs : 0 ≤ s ∧ s < n) {p : List Int} {c t : Int} (h : Pt (EL ls) s p c t) : rtB n ls p = true :=
  rtB_true (fun e => h.ne (List.length_eq_zero_iff.1 e)) (Pt.goodR hL hs h).2.2
theorem rtL_rtB {n : Int} {ls : List Ln} {frm to : Int} (hL : LnsOk n ls) (hn : n ≤ 12) (hf : 0 ≤ frm ∧ frm < n) (ht : 0 ≤ to ∧ to < n) (hh : fh (farR n ls to) frm = true) : rtB n ls (rtL n ls frm to) = true := by
  have hW := FW.of (to := to) hL hn ht
  have hb := hW.bd hh
  exact Pt.rtB hL hf (hW.way _ hh (by omega)).1

/-- whether a link is among some -/
def offB (ix : List Int) (j : Nat) : Bool := ix.any fun y => y == (j : Int)
def restI (ls : List Ln) (ix : List Int) (i : Nat) : List Ln := ((List.range i).filter fun j => !offB ix j).map fun j => ls.getD j lnz
theorem restI_len (ls : List Ln) (ix : List Int) (i : Nat) : (restI ls ix i).length ≤ i := by
  have := List.length_filter_le (fun j => !offB ix j) (List.range i)
  simpa [restI] using this
theorem restI_yes {ls : List Ln} {ix : List Int} {i : Nat} (hi : i < ls.length) (h : offB ix i = false) : restI ls ix (i + 1) = restI ls ix i ++ [ls[i]] := by
  simp [restI, List.range_succ, List.filter_append, h, List.getD, hi]
theorem restI_no {ls : List Ln} {ix : List Int} {i : Nat} (h : offB ix i = true) : restI ls ix (i + 1) = restI ls ix i := by
  simp [restI, List.range_succ, List.filter_append, h]
def restL (ls : List Ln) (ix : List Int) : List Ln := restI ls ix ls.length
theorem restL_mem {ls : List Ln} {ix : List Int} {l : Ln} (h : l ∈ restL ls ix) : ∃ i, ∃ hi : i < ls.length, offB ix i = false ∧ ls[i] = l := by
  simp only [restL, restI, List.mem_map, List.mem_filter, List.mem_range, Bool.not_eq_true'] at h
  obtain ⟨i, ⟨hi, ho⟩, e⟩ := h
  exact ⟨i, hi, ho, by simpa [List.getD, hi] using e⟩
theorem restL_of {ls : List Ln} {ix : List Int} {i : Nat} (hi : i < ls.length) (h : offB ix i = false) : ls[i] ∈ restL ls ix := by
  simp only [restL, restI, List.mem_map, List.mem_filter, List.mem_range, Bool.not_eq_true']
  exact ⟨i, ⟨hi, h⟩, by simp [List.getD, hi]⟩
theorem restL_ok {n : Int} {ls : List Ln} {ix : List Int} (hL : LnsOk n ls) : LnsOk n (restL ls ix) := fun l hl => by
  obtain ⟨i, hi, _, rfl⟩ := restL_mem hl
  exact hL _ (List.getElem_mem hi)
/-- the reference strikes links off -/
def mayF (m : Nat) (ix : List Int) (i : Nat) : List Bool := (ix.take i).foldl (fun b x => b.set x.toNat false) (allT m)
theorem mayF_succ {m : Nat} {ix : List Int} {i : Nat} (h : i < ix.length) : mayF m ix (i + 1) = (mayF m ix i).set ix[i].toNat false := by
  rw [mayF, List.take_succ_eq_append_getElem h, List.foldl_append]; rfl
theorem foldl_set_len (ix : List Int) : ∀ b : List Bool, (ix.foldl (fun b x => b.set x.toNat false) b).length = b.length := by
  induction ix with
  | nil => intro b; rfl
  | cons x ix ih => intro b; rw [List.foldl_cons, ih]; simp
theorem mayF_len (m : Nat) (ix : List Int) (i : Nat) : (mayF m ix i).length = m := by
  unfold mayF; rw [foldl_set_len]; exact allT_len m
theorem foldl_set_get {j : Nat} : ∀ (ix : List Int) (b : List Bool), (∀ x ∈ ix, 0 ≤ x) → (ix.foldl (fun b x => b.set x.toNat false) b).getD j false = (b.getD j false && !offB ix j)
  | [], b, _ => by simp [offB]
  | x :: ix, b, h => by
    rw [List.foldl_cons, foldl_set_get ix _ fun y hy => h y (List.mem_cons_of_mem _ hy)]
    have hx := h x List.mem_cons_self
    simp only [offB, List.any_cons]
    by_cases e : x = (j : Int)
    · subst e
      simp [List.getD, List.getElem?_set]
      intro h; split at h <;> simp at h
    · have e2 : x.toNat ≠ j := fun hh => e (by omega)
      have e3 : (x == (j : Int)) = false := by simpa using e
      simp [List.getD, List.getElem?_set_ne e2, e3]
theorem Lk_rest {ls : List Ln} {ix : List Int} (hix : ∀ x ∈ ix, 0 ≤ x ∧ x < ls.length) {x y o : Int} : EL (restL ls ix) x y o ↔ Lk ls (mayF ls.length ix ix.length) true x y o := by
  have hg : ∀ j, j < ls.length → (mayF ls.length ix ix.length).getD j false = !offB ix j := fun j hj => by
    unfold mayF
    rw [List.take_length, foldl_set_get ix _ fun x hx => (hix x hx).1]
    simp [allT, List.getD, hj]
  constructor
  · rintro ⟨l, hl, hor, e⟩
    obtain ⟨i, hi, ho, rfl⟩ := restL_mem hl
    exact ⟨i, hi, by rw [hg i hi, ho]; rfl, hor, by simpa [costW] using e⟩
  · rintro ⟨i, hi, hm, hor, e⟩
    rw [hg i hi] at hm
    exact ⟨ls[i], restL_of hi (by simpa using hm), hor, by simpa [costW] using e⟩
end Go.Proofs.Ytglfcaioapdiaaa.Bk

-- Two routes: the program's walk.
namespace Go.Proofs.Ytglfcaioapdiaaa.Bk
open Go Go.RowKit Go.Proofs.Ytglfcaioapdiaaa.Aw
set_option linter.unusedSimpArgs false
set_option linter.unusedVariables false
attribute [local irreducible] AW SQ Step RO RC DE Thn InB

set_option maxHeartbeats 4000000 in
theorem twoRoutes_nil_ro (n : Int) (ls : List Ln) (a b : Int) (hN : 1 ≤ n ∧ n ≤ 12) (hn : ls.length ≤ 1048576) (hL : LnsOk n ls) (ha : 0 ≤ a ∧ a < n) (hb : 0 ≤ b ∧ b < n) (hh : fh (farR n ls b) a = false) (k : Nat) :
    RO Try.prog 54 [.agg (bkL n ls), .v (.int .i64 a), .v (.int .i64 b)] k (.tup [.v (.slice none 0 0), .v (.slice none 0 0)]) [] k := by
  have hR := route_nil_ro n ls a b hN hn hL ha hb hh
  unfold bkL at hR ⊢
  refine RO.ofp Try.func54 Try.ntmps54 rfl (goFn_of Try.func54 rfl (by kernel_rfl)) rfl rfl rfl ?_
  ((repeat' (first
    | (show SQ _ _ _ _ _ _ _ _; first | apply sq_nil | (apply q_move; exact rfl; exact rfl) | (apply q_assign; exact rfl; exact rfl) | (apply q_nil_ev; exact rfl; exact rfl; exact rfl; exact (ty rfl); exact rfl))
    | (show SQ _ _ _ _ _ _ _ _; (first | (apply q_ldap; exact rfl; exact rfl; exact (ty rfl); exact rfl; exact rfl; exact (by first | rfl | assumption | ((try simp only [Nat.zero_add]); refine List.getElem?_set_self ?_; (try simp only [List.length_set]); assumption)); exact rfl) | (apply q_box; exact rfl; exact rfl; exact rfl) | (apply q_callU; exact rfl; exact rfl; exact rfl; exact FzL.of rfl; exact hR _)); (try simp only [put, rowsOf, plR, List.all_cons, selE, ovr, setH, del, cellsA, splice, isV, List.nil_append, List.cons_append, List.map_cons, List.map_nil, List.length_cons, List.length_nil, List.set_cons_zero, List.set_cons_succ, List.take_succ_cons, List.take_zero, List.take_nil, List.drop_succ_cons, List.drop_zero, List.drop_nil, List.append_nil, List.all_cons, List.all_nil, Bool.and_true, Bool.true_and, Bool.and_false, Bool.false_and, Nat.reduceAdd, Nat.zero_add, Nat.add_zero, Nat.reduceEqDiff, if_true, if_false, reduceIte]))
    | (show AW _ _ _ _ _ _ _ _; first | refine aw_region ?_ | (refine aw_seqk ?_; intro K hK) | (apply aw_cond_t; exact rfl; exact rfl) | refine aw_ret ?_)
    | refine thn_n ?_
    | (refine hK _ _ _ ?_; clear hK K)
    | refine thn_r ?_)); all_goals (repeat (clear hK K)))
  all_goals refine fin_r (fin_p (.r2 _ _ _ _ (.tmp _ _ rfl) (.tmp _ _ rfl)) ?_ rfl rfl rfl)
  all_goals rfl
def twI (n : Int) (ls : List Ln) (a b : Int) : List Int := rtI ls (rtL n ls a b) (rtL n ls a b).length
def twR (n : Int) (ls : List Ln) (a b : Int) : List Ln := restL ls (twI n ls a b)
theorem rtI_in' {n : Int} {ls : List Ln} {rd : List Int} (h : rtB n ls rd = true) : ∀ x ∈ rtI ls rd rd.length, 0 ≤ x ∧ x < ls.length := by
  intro x hx
  obtain ⟨j, hj, rfl⟩ := List.mem_map.1 hx
  have hj := List.mem_range.1 hj
  have := (rtB_get h).2 (j + 1) (by omega)
  simp only [goodR, Bool.and_eq_true, Bool.or_eq_true, decide_eq_true_eq] at this
  refine ⟨by omega, (ixG_rng _ _).2⟩

set_option maxHeartbeats 4000000 in
theorem twoRoutes_none_ro (n : Int) (ls : List Ln) (a b : Int) (hN : 1 ≤ n ∧ n ≤ 12) (hn : ls.length ≤ 1048576) (hL : LnsOk n ls) (ha : 0 ≤ a ∧ a < n) (hb : 0 ≤ b ∧ b < n) (hh : fh (farR n ls b) a = true) (hh2 : fh (farR n (twR n ls a b) b) a = false) (k : Nat) :
    RO Try.prog 54 [.agg (bkL n ls), .v (.int .i64 a), .v (.int .i64 b)] k (.tup [.sl k 0 (rtN n ls a b), .v (.slice none 0 0)]) [(k, ⟨2, 1, true, (rtL n ls a b).map inL⟩)] (k + 1) := by
  have hR : ∀ k, RO Try.prog 50 [.agg (bkL n ls), .v (.int .i64 a), .v (.int .i64 b)] k (.sl k 0 (rtN n ls a b)) [(k, ⟨2, 1, true, (rtL n ls a b).map inL⟩)] (k + 1) := route_some_ro n ls a b hN hn hL ha hb hh
  have hlen := rtL_len n ls a b
  have hle := rtL_le hL hN.2 hb hh
  have hRt := rtL_rtB hL hN.2 ha hb hh
  have hLk := linksOf_ok_ro n ls (rtL n ls a b) hN hn (by omega) hRt
  have hix := rtI_in' hRt
  have hixl := rtI_len ls (rtL n ls a b) (rtL n ls a b).length
  have hrl := restI_len ls (twI n ls a b) ls.length
  have hrok := restL_ok (ix := twI n ls a b) hL
  have hR2 : ∀ k, RO Try.prog 50 [.agg (bkL n (twR n ls a b)), .v (.int .i64 a), .v (.int .i64 b)] k (.v (.slice none 0 0)) [] k := route_nil_ro n (twR n ls a b) a b hN (by unfold twR restL; omega) hrok ha hb hh2
  have h0 : 0 < rtN n ls a b := Nat.succ_pos _
  refine RO.ofm (.tup [.sl 0 0 (rtN n ls a b), .v (.slice none 0 0)]) ([(0, ⟨2, 1, true, (rtL n ls a b).map inL⟩)]) 1 Try.func54 Try.ntmps54 rfl (goFn_of Try.func54 rfl (by kernel_rfl)) rfl rfl (by simp [renA, renL]) (by simp [shH, renB]) rfl ?_
  have e : rtI ls (rtL n ls a b) (rtL n ls a b).length = twI n ls a b := rfl
  rw [e] at hLk hix hixl
  have e2 : twR n ls a b = restL ls (twI n ls a b) := rfl
  rw [e2] at hR2
  try rw [e2]
  generalize rtN n ls a b = L at *
  generalize rtL n ls a b = p at *
  generalize twI n ls a b = ix at *
  have hrl2 : (restL ls ix).length ≤ ls.length := hrl
  generalize hL2 : rtN n (restL ls ix) a b = L2 at *
  generalize hxs2 : rtL n (restL ls ix) a b = xs2 at *
  clear hrok e e2 hL2 hxs2
  unfold bkL at hR hLk hR2 ⊢
  ((repeat' (first
    | (show SQ _ _ _ _ _ _ _ _; first | apply sq_nil | (apply q_move; exact rfl; exact rfl) | (apply q_assign; exact rfl; exact rfl) | (apply q_fieldAddr; exact rfl; exact rfl; exact (ty rfl); exact rfl; exact rfl; exact rfl; exact rfl) | (apply q_ext; exact rfl; exact rfl; exact rfl) | (apply q_lend; exact rfl; exact rfl; exact (ty rfl); exact rfl) | (apply q_ld1p; exact rfl; exact rfl; exact (ty rfl); exact rfl; exact rfl; exact (by first | rfl | assumption | ((try simp only [Nat.zero_add]); refine List.getElem?_set_self ?_; (try simp only [List.length_set]); assumption)); exact rfl) | (apply q_build; exact rfl; exact (ty rfl); exact rfl; exact rfl; exact rfl) | (apply q_nil_el; exact rfl; exact rfl; exact rfl; exact (ty rfl); exact rfl; exact (by first | omega | (simp; done) | (simp; omega))))
    | (show SQ _ _ _ _ _ _ _ _; (first | (apply q_ldap; exact rfl; exact rfl; exact (ty rfl); exact rfl; exact rfl; exact (by first | rfl | assumption | ((try simp only [Nat.zero_add]); refine List.getElem?_set_self ?_; (try simp only [List.length_set]); assumption)); exact rfl) | (apply q_box; exact rfl; exact rfl; exact rfl) | (apply q_alloc; exact rfl; exact (ty rfl); exact rfl; exact rfl) | (apply q_store; exact rfl; exact rfl; exact (ty rfl); exact rfl; exact (by first | rfl | assumption | ((try simp only [Nat.zero_add]); refine List.getElem?_set_self ?_; (try simp only [List.length_set]); assumption)); exact rfl; exact rfl; exact rfl) | (apply q_callU; exact rfl; exact rfl; exact rfl; exact FzL.of rfl; exact hR _) | (apply q_callU; exact rfl; exact rfl; exact rfl; rotate_left; exact hLk _; rotate_right; focus ((repeat' (first | exact FzL.nil | exact (by assumption : FzC _) _ | refine FzL.cons ?_ ?_ | exact Fz.of rfl | exact Fz.nil | exact Fz.emp | (apply Fz.fnC; assumption) | (apply Fz.sl2; exact rfl; exact (by first | omega | (simp; done) | (simp; omega)); first | exact rfl | exact dt_full (by first | omega | (simp; done) | (simp; omega)) | assumption) | apply Fz.agg | (apply Fz.ptrL; exact rfl; first | exact rfl | assumption) | apply Fz.fnL)); done))); (try simp only [put, rowsOf, plR, List.all_cons, selE, ovr, setH, del, cellsA, splice, isV, List.nil_append, List.cons_append, List.map_cons, List.map_nil, List.length_cons, List.length_nil, List.set_cons_zero, List.set_cons_succ, List.take_succ_cons, List.take_zero, List.take_nil, List.drop_succ_cons, List.drop_zero, List.drop_nil, List.append_nil, List.all_cons, List.all_nil, Bool.and_true, Bool.true_and, Bool.and_false, Bool.false_and, Nat.reduceAdd, Nat.zero_add, Nat.add_zero, Nat.reduceEqDiff, if_true, if_false, reduceIte]))
    | (show AW _ _ _ _ _ _ _ _; first | refine aw_region ?_ | (refine aw_seqk ?_; intro K hK) | refine aw_block ?_ | (apply aw_cond_f; exact rfl; exact rfl) | refine aw_skip ?_)
    | refine thn_n ?_
    | (refine hK _ _ _ ?_; clear hK K))); all_goals (repeat (clear hK K)))
  refine aw_nilB 3 0 1 56 4 rfl rfl rfl rfl rfl ?_
  refine aw_loop (ρ := id) (ι := Nat) (fun i => ([(32, .v (.int .i64 i)), (31, .v (.int .i64 ls.length)), (30, .dsl 4 (ls.map lnL)), (11, .ptr 3 0 0), (9, .sl 2 0 ix.length), (8, .sl 1 0 L), (2, .v (.int .i64 b)), (1, .v (.int .i64 a))],
      [(1, ⟨2, 1, true, p.map inL⟩), (2, ⟨2, 1, true, ix.map inL⟩), (3, ⟨31, 2, false, [[.v (.int .i64 n), .sl 4 0 (restI ls ix i).length]]⟩), (4, ⟨56, 4, true, (restI ls ix i).map lnL⟩)], 5))
    (fun i => i ≤ ls.length) (fun i => ls.length - i) 0 (Nat.zero_le _) ⟨by (repeat (refine ⟨by first | exact lk_i rfl rfl | exact lk_i rfl (by (try dsimp only); first | rfl | omega | (rw [IntWalk.i64_in _ (by omega)]; first | rfl | omega | (push_cast; omega)) | (simp; done) | (simp; omega)) | exact lk_d rfl rfl | exact lk_r rfl rfl rfl | exact lk_s rfl rfl rfl rfl, ?_⟩)); exact trivial, by (repeat (refine ⟨by first | exact ⟨rfl, rfl, rfl⟩, ?_⟩)); exact trivial, by rfl, by exact pin_0⟩ ?_
  intro i hi
  have hml : ((restI ls ix i).map lnL).length = (restI ls ix i).length := List.length_map _
  have hri := restI_len ls ix i
  by_cases c2 : i < ls.length
  · have b2 : decide ((i : Int) < (ls.length : Int)) = true := by simpa using c2
    have hrow : (ls.map lnL)[((i : Int)).toNat]? = some (lnL ls[i]) := by simp [c2]
    rw [lnL_eq] at hrow
    have hw1 : IntKind.i64.wrap ((i : Int) + 1) = ((i + 1 : Nat) : Int) := by rw [IntWalk.i64_in _ (by omega)]; omega
    have hC := slContains_ro ix (ix.map inL) (i : Int) rfl (by omega)
    cases ho : offB ix i with
    | true =>
      have b3 : (!(ix.any fun y => y == (i : Int))) = false := by unfold offB at ho; rw [ho]; rfl
      have e1 := restI_no (ls := ls) ho
      ((repeat' (first
    | (show SQ _ _ _ _ _ _ _ _; first | apply sq_nil | (apply q_move; exact rfl; exact rfl) | (apply q_assign; exact rfl; exact rfl) | (apply q_not; exact rfl; exact rfl) | (apply q_add; exact rfl; exact rfl; exact rfl) | (apply q_lss; exact rfl; exact rfl; exact rfl) | (apply q_ixd; exact rfl; exact rfl; exact rfl; exact (ty rfl); exact rfl; exact (by first | omega | (simp; done) | (simp; omega)); exact (by first | omega | (simp; done) | (simp; omega)); exact (by first | rfl | assumption)))
    | (show SQ _ _ _ _ _ _ _ _; (first | (apply q_ldad; exact rfl; exact rfl; exact (ty rfl); exact rfl; exact rfl) | (apply q_alloc; exact rfl; exact (ty rfl); exact rfl; exact rfl) | (apply q_store; exact rfl; exact rfl; exact (ty rfl); exact rfl; exact (by first | rfl | assumption | ((try simp only [Nat.zero_add]); refine List.getElem?_set_self ?_; (try simp only [List.length_set]); assumption)); exact rfl; exact rfl; exact rfl) | (apply q_callU; exact rfl; exact rfl; exact rfl; rotate_left; exact hC _; rotate_right; focus ((repeat' (first | exact FzL.nil | exact (by assumption : FzC _) _ | refine FzL.cons ?_ ?_ | exact Fz.of rfl | exact Fz.nil | exact Fz.emp | (apply Fz.fnC; assumption) | (apply Fz.sl2; exact rfl; exact (by first | omega | (simp; done) | (simp; omega)); first | exact rfl | exact dt_full (by first | omega | (simp; done) | (simp; omega)) | assumption) | apply Fz.agg | (apply Fz.ptrL; exact rfl; first | exact rfl | assumption) | apply Fz.fnL)); done))); (try simp only [put, rowsOf, plR, List.all_cons, selE, ovr, setH, del, cellsA, splice, isV, List.nil_append, List.cons_append, List.map_cons, List.map_nil, List.length_cons, List.length_nil, List.set_cons_zero, List.set_cons_succ, List.take_succ_cons, List.take_zero, List.take_nil, List.drop_succ_cons, List.drop_zero, List.drop_nil, List.append_nil, List.all_cons, List.all_nil, Bool.and_true, Bool.true_and, Bool.and_false, Bool.false_and, Nat.reduceAdd, Nat.zero_add, Nat.add_zero, Nat.reduceEqDiff, if_true, if_false, reduceIte]))
    | (show AW _ _ _ _ _ _ _ _; first | refine aw_region ?_ | (refine aw_seqk ?_; intro K hK) | refine aw_block ?_ | (apply aw_cond_t; exact rfl; exact (by assumption)) | (apply aw_cond_f; exact rfl; exact (by assumption)) | refine aw_skip ?_)
    | refine thn_n ?_
    | (refine hK _ _ _ ?_; clear hK K)
    | refine inb_n ?_)); all_goals (repeat (clear hK K)))
      all_goals (refine ⟨i + 1, id, c2, by omega, ?_⟩; (try dsimp only); rw [e1, ← hw1]; exact ⟨by (repeat (refine ⟨by first | exact lk_i rfl rfl | exact lk_d rfl rfl | exact lk_r rfl rfl rfl | exact lk_s rfl rfl rfl rfl, ?_⟩)); exact trivial, by (repeat (refine ⟨by first | exact ⟨rfl, rfl, rfl⟩, ?_⟩)); exact trivial, by rfl, by exact pin_0⟩)
    | false =>
      have b3 : (!(ix.any fun y => y == (i : Int))) = true := by unfold offB at ho; rw [ho]; rfl
      have e1 := restI_yes c2 ho
      ((repeat' (first
    | (show SQ _ _ _ _ _ _ _ _; first | apply sq_nil | (apply q_move; exact rfl; exact rfl) | (apply q_assign; exact rfl; exact rfl) | (apply q_fieldAddr; exact rfl; exact rfl; exact (ty rfl); exact rfl; exact rfl; exact rfl; exact rfl) | (apply q_not; exact rfl; exact rfl) | (apply q_add; exact rfl; exact rfl; exact rfl) | (apply q_lss; exact rfl; exact rfl; exact rfl) | (apply q_ixd; exact rfl; exact rfl; exact rfl; exact (ty rfl); exact rfl; exact (by first | omega | (simp; done) | (simp; omega)); exact (by first | omega | (simp; done) | (simp; omega)); exact (by first | rfl | assumption)) | (apply q_ld1p; exact rfl; exact rfl; exact (ty rfl); exact rfl; exact rfl; exact (by first | rfl | assumption | ((try simp only [Nat.zero_add]); refine List.getElem?_set_self ?_; (try simp only [List.length_set]); assumption)); exact rfl))
    | (show SQ _ _ _ _ _ _ _ _; (first | (apply q_ldad; exact rfl; exact rfl; exact (ty rfl); exact rfl; exact rfl) | (apply q_ldap; exact rfl; exact rfl; exact (ty rfl); exact rfl; exact rfl; exact (by first | rfl | assumption | ((try simp only [Nat.zero_add]); refine List.getElem?_set_self ?_; (try simp only [List.length_set]); assumption)); exact rfl) | (apply q_alloc; exact rfl; exact (ty rfl); exact rfl; exact rfl) | (apply q_store; exact rfl; exact rfl; exact (ty rfl); exact rfl; exact (by first | rfl | assumption | ((try simp only [Nat.zero_add]); refine List.getElem?_set_self ?_; (try simp only [List.length_set]); assumption)); exact rfl; exact rfl; exact rfl) | (apply q_buildn; exact rfl; exact (ty rfl); exact rfl; exact rfl; exact rfl; exact rfl; exact rfl; exact rfl; exact rfl) | (apply q_apo_s; exact rfl; exact rfl; exact rfl; exact (ty rfl); exact rfl; exact rfl; exact (by first | omega | (simp; done) | (simp; omega)); exact (by first | exact List.take_of_length_le (by first | omega | (simp; done) | (simp; omega)) | rfl); exact (ty rfl); exact rfl; exact rfl; exact (by first | omega | (simp; done) | (simp; omega)); exact (by first | exact dt_full (by first | omega | (simp; done) | (simp; omega)) | assumption | rfl); exact rfl; exact (by first | omega | (simp; done) | (simp; omega)); exact (by first | omega | (simp; done) | (simp; omega)); exact (by first | assumption | exact rfl)) | (apply q_callU; exact rfl; exact rfl; exact rfl; rotate_left; exact hC _; rotate_right; focus ((repeat' (first | exact FzL.nil | exact (by assumption : FzC _) _ | refine FzL.cons ?_ ?_ | exact Fz.of rfl | exact Fz.nil | exact Fz.emp | (apply Fz.fnC; assumption) | (apply Fz.sl2; exact rfl; exact (by first | omega | (simp; done) | (simp; omega)); first | exact rfl | exact dt_full (by first | omega | (simp; done) | (simp; omega)) | assumption) | apply Fz.agg | (apply Fz.ptrL; exact rfl; first | exact rfl | assumption) | apply Fz.fnL)); done))); (try simp only [put, rowsOf, plR, List.all_cons, selE, ovr, setH, del, cellsA, splice, isV, List.nil_append, List.cons_append, List.map_cons, List.map_nil, List.length_cons, List.length_nil, List.set_cons_zero, List.set_cons_succ, List.take_succ_cons, List.take_zero, List.take_nil, List.drop_succ_cons, List.drop_zero, List.drop_nil, List.append_nil, List.all_cons, List.all_nil, Bool.and_true, Bool.true_and, Bool.and_false, Bool.false_and, Nat.reduceAdd, Nat.zero_add, Nat.add_zero, Nat.reduceEqDiff, if_true, if_false, reduceIte]))
    | (show AW _ _ _ _ _ _ _ _; first | refine aw_region ?_ | (refine aw_seqk ?_; intro K hK) | refine aw_block ?_ | (apply aw_cond_t; exact rfl; exact (by assumption)) | refine aw_skip ?_)
    | refine thn_n ?_
    | (refine hK _ _ _ ?_; clear hK K)
    | refine inb_n ?_)); all_goals (repeat (clear hK K)))
      all_goals (refine ⟨i + 1, fun j => [0, 1, 2, 3, 7].getD j 0, c2, by omega, ?_⟩; (try dsimp only); rw [e1, List.map_append, List.length_append, ← hw1]; exact ⟨by (repeat (refine ⟨by first | exact lk_i rfl rfl | exact lk_d rfl rfl | exact lk_r rfl rfl rfl | exact lk_s rfl rfl rfl rfl, ?_⟩)); exact trivial, by (repeat (refine ⟨by first | exact ⟨rfl, rfl, rfl⟩, ?_⟩)); exact trivial, by rfl, by exact pin_0⟩)
  · have b2 : decide ((i : Int) < (ls.length : Int)) = false := by simpa using c2
    obtain rfl : i = ls.length := by omega
    have e3 : restI ls ix ls.length = restL ls ix := rfl
    rw [e3] at hml ⊢
    ((repeat' (first
    | (show SQ _ _ _ _ _ _ _ _; first | apply sq_nil | (apply q_move; exact rfl; exact rfl) | (apply q_assign; exact rfl; exact rfl) | (apply q_lss; exact rfl; exact rfl; exact rfl))
    | (show SQ _ _ _ _ _ _ _ _; (first | (apply q_ldap; exact rfl; exact rfl; exact (ty rfl); exact rfl; exact rfl; exact (by first | rfl | assumption | ((try simp only [Nat.zero_add]); refine List.getElem?_set_self ?_; (try simp only [List.length_set]); assumption)); exact rfl) | (apply q_callU; exact rfl; exact rfl; exact rfl; rotate_left; exact hR2 _; rotate_right; focus ((repeat' (first | exact FzL.nil | exact (by assumption : FzC _) _ | refine FzL.cons ?_ ?_ | exact Fz.of rfl | exact Fz.nil | exact Fz.emp | (apply Fz.fnC; assumption) | (apply Fz.sl2; exact rfl; exact (by first | omega | (simp; done) | (simp; omega)); first | exact rfl | exact dt_full (by first | omega | (simp; done) | (simp; omega)) | assumption) | apply Fz.agg | (apply Fz.ptrL; exact rfl; first | exact rfl | assumption) | apply Fz.fnL)); done))); (try simp only [put, rowsOf, plR, List.all_cons, selE, ovr, setH, del, cellsA, splice, isV, List.nil_append, List.cons_append, List.map_cons, List.map_nil, List.length_cons, List.length_nil, List.set_cons_zero, List.set_cons_succ, List.take_succ_cons, List.take_zero, List.take_nil, List.drop_succ_cons, List.drop_zero, List.drop_nil, List.append_nil, List.all_cons, List.all_nil, Bool.and_true, Bool.true_and, Bool.and_false, Bool.false_and, Nat.reduceAdd, Nat.zero_add, Nat.add_zero, Nat.reduceEqDiff, if_true, if_false, reduceIte]))
    | (show AW _ _ _ _ _ _ _ _; first | refine aw_region ?_ | (refine aw_seqk ?_; intro K hK) | (apply aw_cond_f; exact rfl; exact (by assumption)) | refine aw_ret ?_ | refine aw_exit ?_)
    | refine thn_n ?_
    | (refine hK _ _ _ ?_; clear hK K)
    | refine thn_e ?_
    | refine inb_same ?_
    | (clear hK K; refine hK _ _ _ ?_; clear hK K))); all_goals (repeat (clear hK K)))
    all_goals first | exact fin_r (fin_m2 rfl rfl rfl _ _ rfl rfl rfl) | exact fin_r (fin_mm rfl rfl rfl rfl rfl rfl rfl)
set_option maxHeartbeats 4000000 in
theorem twoRoutes_both_ro (n : Int) (ls : List Ln) (a b : Int) (hN : 1 ≤ n ∧ n ≤ 12) (hn : ls.length ≤ 1048576) (hL : LnsOk n ls) (ha : 0 ≤ a ∧ a < n) (hb : 0 ≤ b ∧ b < n) (hh : fh (farR n ls b) a = true) (hh2 : fh (farR n (twR n ls a b) b) a = true) (k : Nat) :
    RO Try.prog 54 [.agg (bkL n ls), .v (.int .i64 a), .v (.int .i64 b)] k (.tup [.sl k 0 (rtN n ls a b), .sl (1 + k) 0 (rtN n (twR n ls a b) a b)]) [(k, ⟨2, 1, true, (rtL n ls a b).map inL⟩), (1 + k, ⟨2, 1, true, (rtL n (twR n ls a b) a b).map inL⟩)] (k + 2) := by
  have hR : ∀ k, RO Try.prog 50 [.agg (bkL n ls), .v (.int .i64 a), .v (.int .i64 b)] k (.sl k 0 (rtN n ls a b)) [(k, ⟨2, 1, true, (rtL n ls a b).map inL⟩)] (k + 1) := route_some_ro n ls a b hN hn hL ha hb hh
  have hlen := rtL_len n ls a b
  have hle := rtL_le hL hN.2 hb hh
  have hRt := rtL_rtB hL hN.2 ha hb hh
  have hLk := linksOf_ok_ro n ls (rtL n ls a b) hN hn (by omega) hRt
  have hix := rtI_in' hRt
  have hixl := rtI_len ls (rtL n ls a b) (rtL n ls a b).length
  have hrl := restI_len ls (twI n ls a b) ls.length
  have hrok := restL_ok (ix := twI n ls a b) hL
  have hR2 : ∀ k, RO Try.prog 50 [.agg (bkL n (twR n ls a b)), .v (.int .i64 a), .v (.int .i64 b)] k (.sl k 0 (rtN n (twR n ls a b) a b)) [(k, ⟨2, 1, true, (rtL n (twR n ls a b) a b).map inL⟩)] (k + 1) := route_some_ro n (twR n ls a b) a b hN (by unfold twR restL; omega) hrok ha hb hh2
  have h0 : 0 < rtN n ls a b := Nat.succ_pos _
  refine RO.ofm (.tup [.sl 0 0 (rtN n ls a b), .sl 1 0 (rtN n (twR n ls a b) a b)]) ([(0, ⟨2, 1, true, (rtL n ls a b).map inL⟩), (1, ⟨2, 1, true, (rtL n (twR n ls a b) a b).map inL⟩)]) 2 Try.func54 Try.ntmps54 rfl (goFn_of Try.func54 rfl (by kernel_rfl)) rfl rfl (by simp [renA, renL]) (by simp [shH, renB]) rfl ?_
  have e : rtI ls (rtL n ls a b) (rtL n ls a b).length = twI n ls a b := rfl
  rw [e] at hLk hix hixl
  have e2 : twR n ls a b = restL ls (twI n ls a b) := rfl
  rw [e2] at hR2
  try rw [e2]
  generalize rtN n ls a b = L at *
  generalize rtL n ls a b = p at *
  generalize twI n ls a b = ix at *
  have hrl2 : (restL ls ix).length ≤ ls.length := hrl
  generalize hL2 : rtN n (restL ls ix) a b = L2 at *
  generalize hxs2 : rtL n (restL ls ix) a b = xs2 at *
  clear hrok e e2 hL2 hxs2
  unfold bkL at hR hLk hR2 ⊢
  ((repeat' (first
    | (show SQ _ _ _ _ _ _ _ _; first | apply sq_nil | (apply q_move; exact rfl; exact rfl) | (apply q_assign; exact rfl; exact rfl) | (apply q_fieldAddr; exact rfl; exact rfl; exact (ty rfl); exact rfl; exact rfl; exact rfl; exact rfl) | (apply q_ext; exact rfl; exact rfl; exact rfl) | (apply q_lend; exact rfl; exact rfl; exact (ty rfl); exact rfl) | (apply q_ld1p; exact rfl; exact rfl; exact (ty rfl); exact rfl; exact rfl; exact (by first | rfl | assumption | ((try simp only [Nat.zero_add]); refine List.getElem?_set_self ?_; (try simp only [List.length_set]); assumption)); exact rfl) | (apply q_build; exact rfl; exact (ty rfl); exact rfl; exact rfl; exact rfl) | (apply q_nil_el; exact rfl; exact rfl; exact rfl; exact (ty rfl); exact rfl; exact (by first | omega | (simp; done) | (simp; omega))))
    | (show SQ _ _ _ _ _ _ _ _; (first | (apply q_ldap; exact rfl; exact rfl; exact (ty rfl); exact rfl; exact rfl; exact (by first | rfl | assumption | ((try simp only [Nat.zero_add]); refine List.getElem?_set_self ?_; (try simp only [List.length_set]); assumption)); exact rfl) | (apply q_box; exact rfl; exact rfl; exact rfl) | (apply q_alloc; exact rfl; exact (ty rfl); exact rfl; exact rfl) | (apply q_store; exact rfl; exact rfl; exact (ty rfl); exact rfl; exact (by first | rfl | assumption | ((try simp only [Nat.zero_add]); refine List.getElem?_set_self ?_; (try simp only [List.length_set]); assumption)); exact rfl; exact rfl; exact rfl) | (apply q_callU; exact rfl; exact rfl; exact rfl; exact FzL.of rfl; exact hR _) | (apply q_callU; exact rfl; exact rfl; exact rfl; rotate_left; exact hLk _; rotate_right; focus ((repeat' (first | exact FzL.nil | exact (by assumption : FzC _) _ | refine FzL.cons ?_ ?_ | exact Fz.of rfl | exact Fz.nil | exact Fz.emp | (apply Fz.fnC; assumption) | (apply Fz.sl2; exact rfl; exact (by first | omega | (simp; done) | (simp; omega)); first | exact rfl | exact dt_full (by first | omega | (simp; done) | (simp; omega)) | assumption) | apply Fz.agg | (apply Fz.ptrL; exact rfl; first | exact rfl | assumption) | apply Fz.fnL)); done))); (try simp only [put, rowsOf, plR, List.all_cons, selE, ovr, setH, del, cellsA, splice, isV, List.nil_append, List.cons_append, List.map_cons, List.map_nil, List.length_cons, List.length_nil, List.set_cons_zero, List.set_cons_succ, List.take_succ_cons, List.take_zero, List.take_nil, List.drop_succ_cons, List.drop_zero, List.drop_nil, List.append_nil, List.all_cons, List.all_nil, Bool.and_true, Bool.true_and, Bool.and_false, Bool.false_and, Nat.reduceAdd, Nat.zero_add, Nat.add_zero, Nat.reduceEqDiff, if_true, if_false, reduceIte]))
    | (show AW _ _ _ _ _ _ _ _; first | refine aw_region ?_ | (refine aw_seqk ?_; intro K hK) | refine aw_block ?_ | (apply aw_cond_f; exact rfl; exact rfl) | refine aw_skip ?_)
    | refine thn_n ?_
    | (refine hK _ _ _ ?_; clear hK K))); all_goals (repeat (clear hK K)))
  refine aw_nilB 3 0 1 56 4 rfl rfl rfl rfl rfl ?_
  refine aw_loop (ρ := id) (ι := Nat) (fun i => ([(32, .v (.int .i64 i)), (31, .v (.int .i64 ls.length)), (30, .dsl 4 (ls.map lnL)), (11, .ptr 3 0 0), (9, .sl 2 0 ix.length), (8, .sl 1 0 L), (2, .v (.int .i64 b)), (1, .v (.int .i64 a))],
      [(1, ⟨2, 1, true, p.map inL⟩), (2, ⟨2, 1, true, ix.map inL⟩), (3, ⟨31, 2, false, [[.v (.int .i64 n), .sl 4 0 (restI ls ix i).length]]⟩), (4, ⟨56, 4, true, (restI ls ix i).map lnL⟩)], 5))
    (fun i => i ≤ ls.length) (fun i => ls.length - i) 0 (Nat.zero_le _) ⟨by (repeat (refine ⟨by first | exact lk_i rfl rfl | exact lk_i rfl (by (try dsimp only); first | rfl | omega | (rw [IntWalk.i64_in _ (by omega)]; first | rfl | omega | (push_cast; omega)) | (simp; done) | (simp; omega)) | exact lk_d rfl rfl | exact lk_r rfl rfl rfl | exact lk_s rfl rfl rfl rfl, ?_⟩)); exact trivial, by (repeat (refine ⟨by first | exact ⟨rfl, rfl, rfl⟩, ?_⟩)); exact trivial, by rfl, by exact pin_0⟩ ?_
  intro i hi
  have hml : ((restI ls ix i).map lnL).length = (restI ls ix i).length := List.length_map _
  have hri := restI_len ls ix i
  by_cases c2 : i < ls.length
  · have b2 : decide ((i : Int) < (ls.length : Int)) = true := by simpa using c2
    have hrow : (ls.map lnL)[((i : Int)).toNat]? = some (lnL ls[i]) := by simp [c2]
    rw [lnL_eq] at hrow
    have hw1 : IntKind.i64.wrap ((i : Int) + 1) = ((i + 1 : Nat) : Int) := by rw [IntWalk.i64_in _ (by omega)]; omega
    have hC := slContains_ro ix (ix.map inL) (i : Int) rfl (by omega)
    cases ho : offB ix i with
    | true =>
      have b3 : (!(ix.any fun y => y == (i : Int))) = false := by unfold offB at ho; rw [ho]; rfl
      have e1 := restI_no (ls := ls) ho
      ((repeat' (first
    | (show SQ _ _ _ _ _ _ _ _; first | apply sq_nil | (apply q_move; exact rfl; exact rfl) | (apply q_assign; exact rfl; exact rfl) | (apply q_not; exact rfl; exact rfl) | (apply q_add; exact rfl; exact rfl; exact rfl) | (apply q_lss; exact rfl; exact rfl; exact rfl) | (apply q_ixd; exact rfl; exact rfl; exact rfl; exact (ty rfl); exact rfl; exact (by first | omega | (simp; done) | (simp; omega)); exact (by first | omega | (simp; done) | (simp; omega)); exact (by first | rfl | assumption)))
    | (show SQ _ _ _ _ _ _ _ _; (first | (apply q_ldad; exact rfl; exact rfl; exact (ty rfl); exact rfl; exact rfl) | (apply q_alloc; exact rfl; exact (ty rfl); exact rfl; exact rfl) | (apply q_store; exact rfl; exact rfl; exact (ty rfl); exact rfl; exact (by first | rfl | assumption | ((try simp only [Nat.zero_add]); refine List.getElem?_set_self ?_; (try simp only [List.length_set]); assumption)); exact rfl; exact rfl; exact rfl) | (apply q_callU; exact rfl; exact rfl; exact rfl; rotate_left; exact hC _; rotate_right; focus ((repeat' (first | exact FzL.nil | exact (by assumption : FzC _) _ | refine FzL.cons ?_ ?_ | exact Fz.of rfl | exact Fz.nil | exact Fz.emp | (apply Fz.fnC; assumption) | (apply Fz.sl2; exact rfl; exact (by first | omega | (simp; done) | (simp; omega)); first | exact rfl | exact dt_full (by first | omega | (simp; done) | (simp; omega)) | assumption) | apply Fz.agg | (apply Fz.ptrL; exact rfl; first | exact rfl | assumption) | apply Fz.fnL)); done))); (try simp only [put, rowsOf, plR, List.all_cons, selE, ovr, setH, del, cellsA, splice, isV, List.nil_append, List.cons_append, List.map_cons, List.map_nil, List.length_cons, List.length_nil, List.set_cons_zero, List.set_cons_succ, List.take_succ_cons, List.take_zero, List.take_nil, List.drop_succ_cons, List.drop_zero, List.drop_nil, List.append_nil, List.all_cons, List.all_nil, Bool.and_true, Bool.true_and, Bool.and_false, Bool.false_and, Nat.reduceAdd, Nat.zero_add, Nat.add_zero, Nat.reduceEqDiff, if_true, if_false, reduceIte]))
    | (show AW _ _ _ _ _ _ _ _; first | refine aw_region ?_ | (refine aw_seqk ?_; intro K hK) | refine aw_block ?_ | (apply aw_cond_t; exact rfl; exact (by assumption)) | (apply aw_cond_f; exact rfl; exact (by assumption)) | refine aw_skip ?_)
    | refine thn_n ?_
    | (refine hK _ _ _ ?_; clear hK K)
    | refine inb_n ?_)); all_goals (repeat (clear hK K)))
      all_goals (refine ⟨i + 1, id, c2, by omega, ?_⟩; (try dsimp only); rw [e1, ← hw1]; exact ⟨by (repeat (refine ⟨by first | exact lk_i rfl rfl | exact lk_d rfl rfl | exact lk_r rfl rfl rfl | exact lk_s rfl rfl rfl rfl, ?_⟩)); exact trivial, by (repeat (refine ⟨by first | exact ⟨rfl, rfl, rfl⟩, ?_⟩)); exact trivial, by rfl, by exact pin_0⟩)
    | false =>
      have b3 : (!(ix.any fun y => y == (i : Int))) = true := by unfold offB at ho; rw [ho]; rfl
      have e1 := restI_yes c2 ho
      ((repeat' (first
    | (show SQ _ _ _ _ _ _ _ _; first | apply sq_nil | (apply q_move; exact rfl; exact rfl) | (apply q_assign; exact rfl; exact rfl) | (apply q_fieldAddr; exact rfl; exact rfl; exact (ty rfl); exact rfl; exact rfl; exact rfl; exact rfl) | (apply q_not; exact rfl; exact rfl) | (apply q_add; exact rfl; exact rfl; exact rfl) | (apply q_lss; exact rfl; exact rfl; exact rfl) | (apply q_ixd; exact rfl; exact rfl; exact rfl; exact (ty rfl); exact rfl; exact (by first | omega | (simp; done) | (simp; omega)); exact (by first | omega | (simp; done) | (simp; omega)); exact (by first | rfl | assumption)) | (apply q_ld1p; exact rfl; exact rfl; exact (ty rfl); exact rfl; exact rfl; exact (by first | rfl | assumption | ((try simp only [Nat.zero_add]); refine List.getElem?_set_self ?_; (try simp only [List.length_set]); assumption)); exact rfl))
    | (show SQ _ _ _ _ _ _ _ _; (first | (apply q_ldad; exact rfl; exact rfl; exact (ty rfl); exact rfl; exact rfl) | (apply q_ldap; exact rfl; exact rfl; exact (ty rfl); exact rfl; exact rfl; exact (by first | rfl | assumption | ((try simp only [Nat.zero_add]); refine List.getElem?_set_self ?_; (try simp only [List.length_set]); assumption)); exact rfl) | (apply q_alloc; exact rfl; exact (ty rfl); exact rfl; exact rfl) | (apply q_store; exact rfl; exact rfl; exact (ty rfl); exact rfl; exact (by first | rfl | assumption | ((try simp only [Nat.zero_add]); refine List.getElem?_set_self ?_; (try simp only [List.length_set]); assumption)); exact rfl; exact rfl; exact rfl) | (apply q_buildn; exact rfl; exact (ty rfl); exact rfl; exact rfl; exact rfl; exact rfl; exact rfl; exact rfl; exact rfl) | (apply q_apo_s; exact rfl; exact rfl; exact rfl; exact (ty rfl); exact rfl; exact rfl; exact (by first | omega | (simp; done) | (simp; omega)); exact (by first | exact List.take_of_length_le (by first | omega | (simp; done) | (simp; omega)) | rfl); exact (ty rfl); exact rfl; exact rfl; exact (by first | omega | (simp; done) | (simp; omega)); exact (by first | exact dt_full (by first | omega | (simp; done) | (simp; omega)) | assumption | rfl); exact rfl; exact (by first | omega | (simp; done) | (simp; omega)); exact (by first | omega | (simp; done) | (simp; omega)); exact (by first | assumption | exact rfl)) | (apply q_callU; exact rfl; exact rfl; exact rfl; rotate_left; exact hC _; rotate_right; focus ((repeat' (first | exact FzL.nil | exact (by assumption : FzC _) _ | refine FzL.cons ?_ ?_ | exact Fz.of rfl | exact Fz.nil | exact Fz.emp | (apply Fz.fnC; assumption) | (apply Fz.sl2; exact rfl; exact (by first | omega | (simp; done) | (simp; omega)); first | exact rfl | exact dt_full (by first | omega | (simp; done) | (simp; omega)) | assumption) | apply Fz.agg | (apply Fz.ptrL; exact rfl; first | exact rfl | assumption) | apply Fz.fnL)); done))); (try simp only [put, rowsOf, plR, List.all_cons, selE, ovr, setH, del, cellsA, splice, isV, List.nil_append, List.cons_append, List.map_cons, List.map_nil, List.length_cons, List.length_nil, List.set_cons_zero, List.set_cons_succ, List.take_succ_cons, List.take_zero, List.take_nil, List.drop_succ_cons, List.drop_zero, List.drop_nil, List.append_nil, List.all_cons, List.all_nil, Bool.and_true, Bool.true_and, Bool.and_false, Bool.false_and, Nat.reduceAdd, Nat.zero_add, Nat.add_zero, Nat.reduceEqDiff, if_true, if_false, reduceIte]))
    | (show AW _ _ _ _ _ _ _ _; first | refine aw_region ?_ | (refine aw_seqk ?_; intro K hK) | refine aw_block ?_ | (apply aw_cond_t; exact rfl; exact (by assumption)) | refine aw_skip ?_)
    | refine thn_n ?_
    | (refine hK _ _ _ ?_; clear hK K)
    | refine inb_n ?_)); all_goals (repeat (clear hK K)))
      all_goals (refine ⟨i + 1, fun j => [0, 1, 2, 3, 7].getD j 0, c2, by omega, ?_⟩; (try dsimp only); rw [e1, List.map_append, List.length_append, ← hw1]; exact ⟨by (repeat (refine ⟨by first | exact lk_i rfl rfl | exact lk_d rfl rfl | exact lk_r rfl rfl rfl | exact lk_s rfl rfl rfl rfl, ?_⟩)); exact trivial, by (repeat (refine ⟨by first | exact ⟨rfl, rfl, rfl⟩, ?_⟩)); exact trivial, by rfl, by exact pin_0⟩)
  · have b2 : decide ((i : Int) < (ls.length : Int)) = false := by simpa using c2
    obtain rfl : i = ls.length := by omega
    have e3 : restI ls ix ls.length = restL ls ix := rfl
    rw [e3] at hml ⊢
    ((repeat' (first
    | (show SQ _ _ _ _ _ _ _ _; first | apply sq_nil | (apply q_move; exact rfl; exact rfl) | (apply q_assign; exact rfl; exact rfl) | (apply q_lss; exact rfl; exact rfl; exact rfl))
    | (show SQ _ _ _ _ _ _ _ _; (first | (apply q_ldap; exact rfl; exact rfl; exact (ty rfl); exact rfl; exact rfl; exact (by first | rfl | assumption | ((try simp only [Nat.zero_add]); refine List.getElem?_set_self ?_; (try simp only [List.length_set]); assumption)); exact rfl) | (apply q_callU; exact rfl; exact rfl; exact rfl; rotate_left; exact hR2 _; rotate_right; focus ((repeat' (first | exact FzL.nil | exact (by assumption : FzC _) _ | refine FzL.cons ?_ ?_ | exact Fz.of rfl | exact Fz.nil | exact Fz.emp | (apply Fz.fnC; assumption) | (apply Fz.sl2; exact rfl; exact (by first | omega | (simp; done) | (simp; omega)); first | exact rfl | exact dt_full (by first | omega | (simp; done) | (simp; omega)) | assumption) | apply Fz.agg | (apply Fz.ptrL; exact rfl; first | exact rfl | assumption) | apply Fz.fnL)); done))); (try simp only [put, rowsOf, plR, List.all_cons, selE, ovr, setH, del, cellsA, splice, isV, List.nil_append, List.cons_append, List.map_cons, List.map_nil, List.length_cons, List.length_nil, List.set_cons_zero, List.set_cons_succ, List.take_succ_cons, List.take_zero, List.take_nil, List.drop_succ_cons, List.drop_zero, List.drop_nil, List.append_nil, List.all_cons, List.all_nil, Bool.and_true, Bool.true_and, Bool.and_false, Bool.false_and, Nat.reduceAdd, Nat.zero_add, Nat.add_zero, Nat.reduceEqDiff, if_true, if_false, reduceIte]))
    | (show AW _ _ _ _ _ _ _ _; first | refine aw_region ?_ | (refine aw_seqk ?_; intro K hK) | (apply aw_cond_f; exact rfl; exact (by assumption)) | refine aw_ret ?_ | refine aw_exit ?_)
    | refine thn_n ?_
    | (refine hK _ _ _ ?_; clear hK K)
    | refine thn_e ?_
    | refine inb_same ?_
    | (clear hK K; refine hK _ _ _ ?_; clear hK K))); all_goals (repeat (clear hK K)))
    all_goals first | exact fin_r (fin_m2 rfl rfl rfl _ _ rfl rfl rfl) | exact fin_r (fin_mm rfl rfl rfl rfl rfl rfl rfl)
end Go.Proofs.Ytglfcaioapdiaaa.Bk
