/-
  Critical links: the walks.
-/
import Derived.Test.YtglfcaioapdiaaaBkC
import Derived.Test.YtglfcaioapdiaaaCoL
namespace Go.Proofs.Ytglfcaioapdiaaa.Bk
open Go Go.RowKit Go.Proofs.Ytglfcaioapdiaaa.Aw
set_option linter.unusedSimpArgs false
set_option linter.unusedVariables false
attribute [local irreducible] AW SQ Step RO RC DE Thn InB

theorem bkB_in {n : Int} {ls : List Ln} (h : bkB n ls = true) : (1 ≤ n ∧ n ≤ 12) ∧ ∀ l ∈ ls, 0 ≤ l.a ∧ l.a < n ∧ 0 ≤ l.b ∧ l.b < n := by
  simp only [bkB, Bool.and_eq_true, decide_eq_true_eq] at h
  refine ⟨by simpa [inB] using h.1.1, fun l hl => ?_⟩
  obtain ⟨j, hj, rfl⟩ := List.getElem_of_mem hl
  have := List.all_eq_true.1 h.2 j (List.mem_range.2 hj)
  simp only [goodL, sOk, inB, Bool.and_eq_true, decide_eq_true_eq, List.getD, List.getElem?_eq_getElem hj, Option.getD_some] at this
  omega
def selI (p : Nat → Bool) (i : Nat) : List Int := ((List.range i).filter p).map fun j : Nat => (j : Int)
theorem selI_len (p : Nat → Bool) (i : Nat) : (selI p i).length ≤ i := by
  have := List.length_filter_le p (List.range i)
  simpa [selI] using this
theorem selI_yes {p : Nat → Bool} {i : Nat} (h : p i = true) : selI p (i + 1) = selI p i ++ [(i : Int)] := by
  simp [selI, List.range_succ, List.filter_append, h]
theorem selI_no {p : Nat → Bool} {i : Nat} (h : p i = false) : selI p (i + 1) = selI p i := by
  simp [selI, List.range_succ, List.filter_append, h]
theorem selI_in {p : Nat → Bool} {i : Nat} {x : Int} (h : x ∈ selI p i) : 0 ≤ x ∧ x < i := by
  obtain ⟨j, hj, rfl⟩ := List.mem_map.1 h
  have := List.mem_range.1 (List.mem_filter.1 hj).1
  omega
def allT (m : Nat) : List Bool := (List.range m).map fun _ => true
theorem allT_len (m : Nat) : (allT m).length = m := by simp [allT]
def mayI (m i : Nat) : List Bool := (allT m).set i false
theorem mayI_len (m i : Nat) : (mayI m i).length = m := by simp [mayI, allT]
theorem mayI_get {m i j : Nat} (h : j < m) : (mayI m i).getD j false = (j != i) := by
  simp only [mayI, allT, List.getD, List.getElem?_set]
  by_cases e : i = j
  · subst e; simp [h]
  · simp [e, h, Ne.symm e]
def crB (n : Int) (ls : List Ln) (i : Nat) : Bool := (parts n ls (mayI ls.length i) ls.length).getD (ls.getD i lnz).a.toNat 0 != (parts n ls (mayI ls.length i) ls.length).getD (ls.getD i lnz).b.toNat 0
theorem act_others (ls : List Ln) (i : Nat) (l : Ln) : l ∈ act ls (mayI ls.length i) ls.length ↔ l ∈ (selI (fun j => ((j : Int) != (i : Int))) ls.length).map (lnAt ls) := by
  simp only [act, selI, List.mem_map, List.mem_filter, List.mem_range]
  constructor
  · rintro ⟨j, ⟨hj, hm⟩, rfl⟩
    rw [mayI_get hj] at hm
    exact ⟨(j : Int), ⟨j, ⟨hj, by simp at hm ⊢; omega⟩, rfl⟩, by simp [lnAt]⟩
  · rintro ⟨x, ⟨j, ⟨hj, hm⟩, rfl⟩, rfl⟩
    exact ⟨j, ⟨hj, by rw [mayI_get hj]; simp at hm ⊢; omega⟩, by simp [lnAt]⟩
theorem crB_eq {n : Int} {ls : List Ln} (hL : ∀ l ∈ ls, 0 ≤ l.a ∧ l.a < n ∧ 0 ≤ l.b ∧ l.b < n) {i : Nat} (hi : i < ls.length) :
    (!(reachV n ls (selI (fun j => ((j : Int) != (i : Int))) ls.length) ls[i].a).any fun y => y == ls[i].b) = crB n ls i := by
  obtain ⟨a0, a1, d0, d1⟩ := hL ls[i] (List.getElem_mem hi)
  have hc := parts_conn (may := mayI ls.length i) hL ls.length (Nat.le_refl _) ls[i].a ls[i].b a0 a1 d0 d1
  have hr := (reachV_spec (ix := selI (fun j => ((j : Int) != (i : Int))) ls.length) hL (fun x hx => selI_in hx) ⟨a0, a1⟩).2 ls[i].b
  have hm : Cn (act ls (mayI ls.length i) ls.length) ls[i].a ls[i].b ↔ Cn ((selI (fun j => ((j : Int) != (i : Int))) ls.length).map (lnAt ls)) ls[i].a ls[i].b :=
    ⟨fun h => h.mono fun l hl => (act_others ls i l).1 hl, fun h => h.mono fun l hl => (act_others ls i l).2 hl⟩
  have hD : ls.getD i lnz = ls[i] := by simp [List.getD, hi]
  rw [hm, ← hr] at hc
  unfold crB
  rw [hD, Bool.eq_iff_iff]
  simp only [Bool.not_eq_true', List.any_eq_false, beq_iff_eq, bne_iff_ne, ne_eq, hc]
  constructor
  · intro h h2; exact h _ h2 rfl
  · intro h y hy e; subst e; exact h hy
set_option maxHeartbeats 4000000 in
theorem l25All_ro (n : Int) (ls : List Ln) (hn : ls.length ≤ 1048576) (k : Nat) : RO Try.prog 47 [.dptr (bkL n ls)] k (.sl k 0 ls.length) [(k, ⟨4, 1, true, (allT ls.length).map boL⟩)] (k + 1) := by
  refine RO.ofm (.sl 0 0 ls.length) ([(0, ⟨4, 1, true, (allT ls.length).map boL⟩)]) 1 Try.func47 Try.ntmps47 rfl (goFn_of Try.func47 rfl (by kernel_rfl)) rfl rfl (by simp [renA, renL]) (by simp [shH, renB]) rfl ?_
  unfold bkL
  have hrl : ((ls.map lnL).length : Int).toNat = ls.length := by simp
  ((repeat' (first
    | (show SQ _ _ _ _ _ _ _ _; first | apply sq_nil | (apply q_move; exact rfl; exact rfl) | (apply q_assign; exact rfl; exact rfl) | (apply q_fieldAddr; exact rfl; exact rfl; exact (ty rfl); exact rfl; exact rfl; exact rfl; exact rfl) | (apply q_nilc; exact rfl; exact rfl; exact rfl) | (apply q_lend; exact rfl; exact rfl; exact (ty rfl); exact rfl) | (apply q_ld1d; exact rfl; exact rfl; exact (ty rfl); exact rfl; exact rfl))
    | (show SQ _ _ _ _ _ _ _ _; (first | (apply q_mks; exact rfl; exact rfl; exact rfl; exact (ty rfl); exact rfl; exact (by first | omega | (simp; done) | (simp; omega)); exact (by first | omega | (simp; done) | (simp; omega)); exact (by first | omega | (simp; done) | (simp; omega)); exact (by first | omega | (simp; done) | (simp; omega)); exact rfl; exact rfl)); (try simp only [put, rowsOf, plR, List.all_cons, selE, ovr, setH, del, cellsA, splice, isV, List.nil_append, List.cons_append, List.map_cons, List.map_nil, List.length_cons, List.length_nil, List.set_cons_zero, List.set_cons_succ, List.take_succ_cons, List.take_zero, List.take_nil, List.drop_succ_cons, List.drop_zero, List.drop_nil, List.append_nil, List.all_cons, List.all_nil, Bool.and_true, Bool.true_and, Bool.and_false, Bool.false_and, Nat.reduceAdd, Nat.zero_add, Nat.add_zero, Nat.reduceEqDiff, if_true, if_false, reduceIte]))
    | (show AW _ _ _ _ _ _ _ _; first | refine aw_region ?_ | (refine aw_seqk ?_; intro K hK) | refine aw_block ?_)
    | refine thn_n ?_
    | (refine hK _ _ _ ?_; clear hK K))); all_goals (repeat (clear hK K)))
  refine aw_loop (ρ := id) (ι := Nat) (fun i => ([(4, .v (.int .i64 i)), (3, .sl 0 0 ls.length)], [(0, ⟨4, 1, true, (ramp (fun _ => true) (List.replicate ls.length false) i).map boL⟩)], 1))
    (fun i => i ≤ ls.length) (fun i => ls.length - i) 0 (Nat.zero_le _) ⟨by (repeat (refine ⟨by first | exact lk_i rfl rfl | exact lk_s rfl rfl (by (try dsimp only); first | rfl | omega | (rw [IntWalk.i64_in _ (by omega)]; first | rfl | omega | (push_cast; omega)) | (simp; done) | (simp; omega)) rfl, ?_⟩)); exact trivial, by (repeat (refine ⟨by first | exact lkb rfl rfl rfl (by (try dsimp only); first | rfl | (simp only [ramp_zero, List.length_map, List.map_replicate]; rfl) | (simp only [ramp_zero, List.length_map, List.map_replicate, Int.toNat_natCast]; rfl)) rfl, ?_⟩)); exact trivial, by rfl, by exact pin_0⟩ ?_
  intro i hi
  by_cases c2 : i < ls.length
  · have b2 : decide ((i : Int) < (ls.length : Int)) = true := by simpa using c2
    have hrg := ramp_get (f := fun _ => true) (xs := List.replicate ls.length false) (i := i) (by simpa using c2)
    have hr2 : ((ramp (fun _ => true) (List.replicate ls.length false) i).map boL)[0 + ((i : Int)).toNat]? = some (boL false) := by
      rw [List.getElem?_map, show 0 + ((i : Int)).toNat = i by omega, hrg]; simp
    rw [boL_eq] at hr2
    ((repeat' (first
    | (show SQ _ _ _ _ _ _ _ _; first | apply sq_nil | (apply q_move; exact rfl; exact rfl) | (apply q_assign; exact rfl; exact rfl) | (apply q_lenl; exact rfl; exact rfl; exact (ty rfl); exact rfl) | (apply q_add; exact rfl; exact rfl; exact rfl) | (apply q_lss; exact rfl; exact rfl; exact rfl) | (apply q_ixl; exact rfl; exact rfl; exact rfl; exact (ty rfl); exact rfl; exact rfl; exact rfl; exact (by first | omega | (simp; done) | (simp; omega)); exact (by first | omega | (simp; done) | (simp; omega))))
    | (show SQ _ _ _ _ _ _ _ _; (first | (apply q_store; exact rfl; exact rfl; exact (ty rfl); exact rfl; exact (by first | rfl | assumption | ((try simp only [Nat.zero_add]); refine List.getElem?_set_self ?_; (try simp only [List.length_set]); assumption)); exact rfl; exact rfl; exact rfl)); (try simp only [put, rowsOf, plR, List.all_cons, selE, ovr, setH, del, cellsA, splice, isV, List.nil_append, List.cons_append, List.map_cons, List.map_nil, List.length_cons, List.length_nil, List.set_cons_zero, List.set_cons_succ, List.take_succ_cons, List.take_zero, List.take_nil, List.drop_succ_cons, List.drop_zero, List.drop_nil, List.append_nil, List.all_cons, List.all_nil, Bool.and_true, Bool.true_and, Bool.and_false, Bool.false_and, Nat.reduceAdd, Nat.zero_add, Nat.add_zero, Nat.reduceEqDiff, if_true, if_false, reduceIte]))
    | (show AW _ _ _ _ _ _ _ _; first | refine aw_region ?_ | (refine aw_seqk ?_; intro K hK) | refine aw_block ?_ | (apply aw_cond_t; exact rfl; exact (by assumption)) | refine aw_skip ?_)
    | refine thn_n ?_
    | (refine hK _ _ _ ?_; clear hK K)
    | refine inb_n ?_)); all_goals (repeat (clear hK K)))
    all_goals exact ⟨i + 1, id, c2, by omega, ⟨by (repeat (refine ⟨by first | exact lk_i rfl (by (try dsimp only); first | rfl | omega | (rw [IntWalk.i64_in _ (by omega)]; first | rfl | omega | (push_cast; omega)) | (simp; done) | (simp; omega)) | exact lk_s rfl rfl rfl rfl, ?_⟩)); exact trivial, by (repeat (refine ⟨by first | exact lkb rfl rfl rfl (by rw [← ramp_set (by simpa using c2), List.map_set]; simp; rfl) rfl, ?_⟩)); exact trivial, by rfl, by exact pin_0⟩⟩
  · have b2 : decide ((i : Int) < (ls.length : Int)) = false := by simpa using c2
    obtain rfl : i = ls.length := by omega
    ((repeat' (first
    | (show SQ _ _ _ _ _ _ _ _; first | apply sq_nil | (apply q_move; exact rfl; exact rfl) | (apply q_assign; exact rfl; exact rfl) | (apply q_lenl; exact rfl; exact rfl; exact (ty rfl); exact rfl) | (apply q_lss; exact rfl; exact rfl; exact rfl))
    | (show AW _ _ _ _ _ _ _ _; first | refine aw_region ?_ | (refine aw_seqk ?_; intro K hK) | (apply aw_cond_f; exact rfl; exact (by assumption)) | refine aw_ret ?_ | refine aw_exit ?_)
    | refine thn_n ?_
    | (refine hK _ _ _ ?_; clear hK K)
    | refine thn_e ?_
    | refine inb_same ?_
    | (clear hK K; refine hK _ _ _ ?_; clear hK K))); all_goals (repeat (clear hK K)))
    all_goals exact fin_r (fin_m rfl rfl _ _ rfl (by have := ramp_full (f := fun _ : Nat => true) (xs := List.replicate ls.length false); simp only [List.length_replicate] at this; rw [this]; rfl))
end Go.Proofs.Ytglfcaioapdiaaa.Bk
