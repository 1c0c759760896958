/-
  Connected parts: the program's walk.
-/
import Derived.Test.YtglfcaioapdiaaaLkB
namespace Go.Proofs.Ytglfcaioapdiaaa.Bk
open Go Go.RowKit Go.Proofs.Ytglfcaioapdiaaa.Aw
set_option linter.unusedSimpArgs false
set_option linter.unusedVariables false
attribute [local irreducible] AW SQ Step RO RC DE Thn InB

theorem pigeon : ∀ (m : Nat) (l : List Int), l.Nodup → (∀ x ∈ l, 0 ≤ x ∧ x < (m : Int)) → l.length ≤ m
  | 0, [], _, _ => Nat.le_refl _
  | 0, x :: l, _, h => by have := h x List.mem_cons_self; omega
  | m + 1, l, hd, h => by
    have ih := pigeon m (l.erase (m : Int)) (hd.erase _) (fun x hx => by
      have h1 := (hd.mem_erase_iff).1 hx
      have h2 := h x h1.2
      have h3 := h1.1
      refine ⟨h2.1, ?_⟩
      have := h2.2
      omega)
    have := List.length_erase (a := (m : Int)) (l := l)
    split at this <;> omega
def GoodN (n : Int) (nodes : List Int) : Prop := nodes.Nodup ∧ ∀ x ∈ nodes, 0 ≤ x ∧ x < n
theorem GoodN.le {n : Int} {nodes : List Int} (h0 : 0 ≤ n) (h : GoodN n nodes) : nodes.length ≤ n.toNat :=
  pigeon _ _ h.1 fun x hx => by have := h.2 x hx; omega
def stepN (ls : List Ln) (cur : Int) (nodes : List Int) (x : Int) : List Int :=
  if othB cur (ls.getD x.toNat lnz) && !(nodes.any fun y => y == othV cur (ls.getD x.toNat lnz)) then nodes ++ [othV cur (ls.getD x.toNat lnz)] else nodes
def rIn (ls : List Ln) (cur : Int) (ix : List Int) (nodes : List Int) (i : Nat) : List Int := (ix.take i).foldl (stepN ls cur) nodes
theorem rIn_succ {ls : List Ln} {cur : Int} {ix nodes : List Int} {i : Nat} (h : i < ix.length) : rIn ls cur ix nodes (i + 1) = stepN ls cur (rIn ls cur ix nodes i) ix[i] := by
  rw [rIn, List.take_succ_eq_append_getElem h, List.foldl_append]; rfl
def reachF (ls : List Ln) (ix : List Int) : Nat → Nat → List Int → List Int
  | 0, _, nodes => nodes
  | f + 1, k, nodes => if k < nodes.length then reachF ls ix f (k + 1) (rIn ls (nodes.getD k 0) ix nodes ix.length) else nodes
def reachV (n : Int) (ls : List Ln) (ix : List Int) (frm : Int) : List Int := reachF ls ix n.toNat 0 [frm]
theorem stepN_get {ls : List Ln} {cur x c : Int} {nodes : List Int} {k : Nat} (h : nodes[k]? = some c) : (stepN ls cur nodes x)[k]? = some c := by
  unfold stepN
  split
  · rw [List.getElem?_append_left (List.getElem?_eq_some_iff.1 h).1, h]
  · exact h
theorem foldN_get {ls : List Ln} {cur c : Int} {k : Nat} : ∀ (ix nodes : List Int), nodes[k]? = some c → (ix.foldl (stepN ls cur) nodes)[k]? = some c
  | [], _, h => h
  | x :: ix, nodes, h => foldN_get ix _ (stepN_get h)
theorem othV_in {n x : Int} {l : Ln} (hL : 0 ≤ l.a ∧ l.a < n ∧ 0 ≤ l.b ∧ l.b < n) (h : othB x l = true) : 0 ≤ othV x l ∧ othV x l < n := by
  simp only [othB, Bool.or_eq_true, beq_iff_eq] at h
  unfold othV
  grind
theorem stepN_good {n : Int} {ls : List Ln} {cur x : Int} {nodes : List Int} (hL : ∀ l ∈ ls, 0 ≤ l.a ∧ l.a < n ∧ 0 ≤ l.b ∧ l.b < n) (hx : x.toNat < ls.length) (h : GoodN n nodes) : GoodN n (stepN ls cur nodes x) := by
  unfold stepN
  split
  · rename_i hc
    simp only [Bool.and_eq_true, Bool.not_eq_true', List.any_eq_false, beq_iff_eq] at hc
    have hl : ls.getD x.toNat lnz ∈ ls := by simp [List.getD, hx]
    have := othV_in (hL _ hl) hc.1
    refine ⟨List.nodup_append.2 ⟨h.1, by simp, fun a ha b hb => ?_⟩, fun y hy => ?_⟩
    · simp at hb; subst hb; intro e; exact hc.2 a ha e
    · rcases List.mem_append.1 hy with h1 | h1
      · exact h.2 y h1
      · simp at h1; subst h1; exact this
  · exact h
theorem rIn_good {n : Int} {ls : List Ln} {cur : Int} {ix nodes : List Int} (hL : ∀ l ∈ ls, 0 ≤ l.a ∧ l.a < n ∧ 0 ≤ l.b ∧ l.b < n) (hix : ∀ x ∈ ix, 0 ≤ x ∧ x < ls.length) (h : GoodN n nodes) : ∀ i, i ≤ ix.length → GoodN n (rIn ls cur ix nodes i)
  | 0, _ => by simpa [rIn] using h
  | i + 1, hi => by
    rw [rIn_succ (by omega)]
    have := hix ix[i] (List.getElem_mem _)
    exact stepN_good hL (by omega) (rIn_good hL hix h i (by omega))
set_option maxHeartbeats 4000000 in
theorem reached_ro (n : Int) (ls : List Ln) (ix : List Int) (frm : Int) (hN : 1 ≤ n ∧ n ≤ 12) (hn : ls.length ≤ 1048576) (hr : ix.length ≤ 1048576) (hL : ∀ l ∈ ls, 0 ≤ l.a ∧ l.a < n ∧ 0 ≤ l.b ∧ l.b < n) (hix : ∀ x ∈ ix, 0 ≤ x ∧ x < ls.length) (hf : 0 ≤ frm ∧ frm < n) (k : Nat) :
    RO Try.prog 68 [.agg (bkL n ls), .dsl 1 (ix.map inL), .v (.int .i64 frm)] k (.sl k 0 (reachV n ls ix frm).length) [(k, ⟨2, 1, true, (reachV n ls ix frm).map inL⟩)] (k + 1) := by
  refine RO.ofm (.sl 0 0 (reachV n ls ix frm).length) ([(0, ⟨2, 1, true, (reachV n ls ix frm).map inL⟩)]) 1 Try.func68 Try.ntmps68 rfl (goFn_of Try.func68 rfl (by kernel_rfl)) rfl rfl (by simp [renA, renL]) (by simp [shH, renB]) rfl ?_
  unfold bkL
  ((repeat' (first
    | (show SQ _ _ _ _ _ _ _ _; first | apply sq_nil | (apply q_move; exact rfl; exact rfl) | (apply q_assign; exact rfl; exact rfl))
    | (show SQ _ _ _ _ _ _ _ _; (first | (apply q_box; exact rfl; exact rfl; exact rfl) | (apply q_buildn; exact rfl; exact (ty rfl); exact rfl; exact rfl; exact rfl; exact rfl; exact rfl; exact rfl; exact rfl)); (try simp only [put, rowsOf, plR, List.all_cons, selE, ovr, setH, del, cellsA, splice, isV, List.nil_append, List.cons_append, List.map_cons, List.map_nil, List.length_cons, List.length_nil, List.set_cons_zero, List.set_cons_succ, List.take_succ_cons, List.take_zero, List.take_nil, List.drop_succ_cons, List.drop_zero, List.drop_nil, List.append_nil, List.all_cons, List.all_nil, Bool.and_true, Bool.true_and, Bool.and_false, Bool.false_and, Nat.reduceAdd, Nat.zero_add, Nat.add_zero, Nat.reduceEqDiff, if_true, if_false, reduceIte]))
    | (show AW _ _ _ _ _ _ _ _; first | refine aw_region ?_ | (refine aw_seqk ?_; intro K hK) | refine aw_block ?_)
    | refine thn_n ?_
    | (refine hK _ _ _ ?_; clear hK K))); all_goals (repeat (clear hK K)))
  refine aw_loop (ρ := id) (ι := Nat × List Int) (fun p => ([(8, .v (.int .i64 p.1)), (7, .sl 1 0 p.2.length), (3, .ptr 0 0 0), (1, .dsl 1 (ix.map inL))], [(0, ⟨31, 2, false, [[.v (.int .i64 n), .dsl 4 (ls.map lnL)]]⟩), (1, ⟨2, 1, true, p.2.map inL⟩)], 2))
    (fun p => p.1 ≤ p.2.length ∧ GoodN n p.2 ∧ reachF ls ix (n.toNat - p.1) p.1 p.2 = reachV n ls ix frm) (fun p => n.toNat - p.1) (0, [frm])
    ⟨Nat.zero_le _, ⟨by simp, fun x hx => by simp at hx; subst hx; exact hf⟩, rfl⟩ ⟨by (repeat (refine ⟨by first | exact lk_i rfl rfl | exact lk_d rfl rfl | exact lk_r rfl rfl rfl | exact lk_s rfl rfl rfl rfl, ?_⟩)); exact trivial, by (repeat (refine ⟨by first | exact ⟨rfl, rfl, rfl⟩, ?_⟩)); exact trivial, by rfl, by exact pin_0⟩ ?_
  rintro ⟨q, nodes⟩ ⟨hq, hg, hR⟩
  dsimp only at hq hg hR
  have hle := hg.le (by omega)
  by_cases c1 : q < nodes.length
  · have b1 : decide ((q : Int) < (nodes.length : Int)) = true := by simpa using c1
    obtain ⟨f, hfu⟩ : ∃ f, n.toNat - q = f + 1 := ⟨n.toNat - q - 1, by omega⟩
    rw [hfu, reachF, if_pos c1] at hR
    have hcur : nodes[q]? = some (nodes.getD q 0) := by simp [List.getD, c1]
    generalize nodes.getD q 0 = cur at hR hcur
    ((repeat' (first
    | (show SQ _ _ _ _ _ _ _ _; first | apply sq_nil | (apply q_move; exact rfl; exact rfl) | (apply q_lend; exact rfl; exact rfl; exact (ty rfl); exact rfl) | (apply q_lenl; exact rfl; exact rfl; exact (ty rfl); exact rfl) | (apply q_lss; exact rfl; exact rfl; exact rfl))
    | (show AW _ _ _ _ _ _ _ _; first | refine aw_region ?_ | (refine aw_seqk ?_; intro K hK) | refine aw_block ?_ | (apply aw_cond_t; exact rfl; exact (by assumption)) | refine aw_skip ?_)
    | refine thn_n ?_
    | (refine hK _ _ _ ?_; clear hK K))); all_goals (repeat (clear hK K)))
    refine aw_loop (ρ := id) (ι := Nat) (fun i => ([(23, .v (.int .i64 i)), (22, .v (.int .i64 (ix.length : Nat))), (21, .dsl 1 (ix.map inL)), (8, .v (.int .i64 q)), (7, .sl 1 0 (rIn ls cur ix nodes i).length), (3, .ptr 0 0 0), (1, .dsl 1 (ix.map inL))], [(0, ⟨31, 2, false, [[.v (.int .i64 n), .dsl 4 (ls.map lnL)]]⟩), (1, ⟨2, 1, true, (rIn ls cur ix nodes i).map inL⟩)], 2))
      (fun i => i ≤ ix.length) (fun i => ix.length - i) 0 (Nat.zero_le _) ⟨by (repeat (refine ⟨by first | exact lk_i rfl rfl | exact lk_i rfl (by (try dsimp only); first | rfl | omega | (rw [IntWalk.i64_in _ (by omega)]; first | rfl | omega | (push_cast; omega)) | (simp; done) | (simp; omega)) | exact lk_d rfl rfl | exact lk_r rfl rfl rfl | exact lk_s rfl rfl rfl rfl, ?_⟩)); exact trivial, by (repeat (refine ⟨by first | exact ⟨rfl, rfl, rfl⟩, ?_⟩)); exact trivial, by rfl, by exact pin_0⟩ ?_
    intro i hi
    have hgi := rIn_good (cur := cur) hL hix hg i hi
    have hli := hgi.le (by omega)
    have hcu : (rIn ls cur ix nodes i)[q]? = some cur := foldN_get _ _ hcur
    by_cases c2 : i < ix.length
    · have b2 : decide ((i : Int) < (ix.length : Int)) = true := by simpa using c2
      have hrow : (ix.map inL)[((i : Int)).toNat]? = some (inL ix[i]) := by simp [c2]
      rw [inL_eq] at hrow
      obtain ⟨x0, x1⟩ := hix ix[i] (List.getElem_mem c2)
      have x2 : ix[i].toNat < ls.length := by omega
      have hrow2 : (ls.map lnL)[(ix[i]).toNat]? = some (lnL ls[ix[i].toNat]) := by simp [x2]
      rw [lnL_eq] at hrow2
      have hD : ls.getD ix[i].toNat lnz = ls[ix[i].toNat] := by simp [List.getD, x2]
      have hs := rIn_succ (ls := ls) (cur := cur) (nodes := nodes) c2
      rw [stepN, hD] at hs
      have hg2 := rIn_good (cur := cur) hL hix hg (i + 1) c2
      have hl2 := hg2.le (by omega)
      generalize hN1 : rIn ls cur ix nodes (i + 1) = nodes' at hs hg2 hl2
      generalize rIn ls cur ix nodes i = nds at hs hgi hli hcu ⊢
      have hr2 : (nds.map inL)[0 + ((q : Int)).toNat]? = some (inL cur) := by rw [List.getElem?_map, show 0 + ((q : Int)).toNat = q by omega, hcu]; rfl
      rw [inL_eq] at hr2
      have hqn : q < nds.length := (List.getElem?_eq_some_iff.1 hcu).1
      have hml : (nds.map inL).length = nds.length := List.length_map _
      have hw3 : IntKind.i64.wrap ((i : Int) + 1) = ((i + 1 : Nat) : Int) := by rw [IntWalk.i64_in _ (by omega)]; omega
      have hC := slContains_ro nds (nds.map inL) (othV cur ls[ix[i].toNat]) rfl (by omega)
      ((repeat' (first
    | (show SQ _ _ _ _ _ _ _ _; first | apply sq_nil | (apply q_move; exact rfl; exact rfl) | (apply q_assign; exact rfl; exact rfl) | (apply q_pick_t; exact rfl; exact rfl; exact rfl; exact (by first | assumption | exact rfl)) | (apply q_pick_f; exact rfl; exact rfl; exact rfl; exact (by first | assumption | exact rfl)) | (apply q_not; exact rfl; exact rfl) | (apply q_add; exact rfl; exact rfl; exact rfl) | (apply q_lss; exact rfl; exact rfl; exact rfl) | (apply q_ixd; exact rfl; exact rfl; exact rfl; exact (ty rfl); exact rfl; exact (by first | omega | (simp; done) | (simp; omega)); exact (by first | omega | (simp; done) | (simp; omega)); exact (by first | rfl | assumption)) | (apply q_ld1d; exact rfl; exact rfl; exact (ty rfl); exact rfl; exact rfl) | (apply q_g; exact rfl; exact rfl; exact rfl; exact (by assumption)) | (apply q_s; exact rfl; exact rfl; exact rfl; exact (by assumption); exact rfl))
    | (show SQ _ _ _ _ _ _ _ _; (first | (apply q_buildn; exact rfl; exact (ty rfl); exact rfl; exact rfl; exact rfl; exact rfl; exact rfl; exact rfl; exact rfl) | (apply q_apo_s; exact rfl; exact rfl; exact rfl; exact (ty rfl); exact rfl; exact rfl; exact (by first | omega | (simp; done) | (simp; omega)); exact (by first | exact List.take_of_length_le (by first | omega | (simp; done) | (simp; omega)) | rfl); exact (ty rfl); exact rfl; exact rfl; exact (by first | omega | (simp; done) | (simp; omega)); exact (by first | exact dt_full (by first | omega | (simp; done) | (simp; omega)) | assumption | rfl); exact rfl; exact (by first | omega | (simp; done) | (simp; omega)); exact (by first | omega | (simp; done) | (simp; omega)); exact (by first | assumption | exact rfl)) | (apply q_callU; exact rfl; exact rfl; exact rfl; rotate_left; exact hC _; rotate_right; focus ((repeat' (first | exact FzL.nil | exact (by assumption : FzC _) _ | refine FzL.cons ?_ ?_ | exact Fz.of rfl | exact Fz.nil | exact Fz.emp | (apply Fz.fnC; assumption) | (apply Fz.sl2; exact rfl; exact (by first | omega | (simp; done) | (simp; omega)); first | exact rfl | exact dt_full (by first | omega | (simp; done) | (simp; omega)) | assumption) | apply Fz.agg | (apply Fz.ptrL; exact rfl; first | exact rfl | assumption) | apply Fz.fnL)); done))); (try simp only [put, rowsOf, plR, List.all_cons, selE, ovr, setH, del, cellsA, splice, isV, List.nil_append, List.cons_append, List.map_cons, List.map_nil, List.length_cons, List.length_nil, List.set_cons_zero, List.set_cons_succ, List.take_succ_cons, List.take_zero, List.take_nil, List.drop_succ_cons, List.drop_zero, List.drop_nil, List.append_nil, List.all_cons, List.all_nil, Bool.and_true, Bool.true_and, Bool.and_false, Bool.false_and, Nat.reduceAdd, Nat.zero_add, Nat.add_zero, Nat.reduceEqDiff, if_true, if_false, reduceIte]))
    | (show SQ _ _ _ _ _ _ _ _; apply q_gs; exact rfl; exact rfl; exact rfl; exact rfl; all_goals intro h)
    | (show DE _ _ _ _ _ _ _ _ _ _ _ _; first | (apply e_move; exact rfl; exact rfl; exact rfl) | (apply e_assign; exact rfl; exact rfl; exact rfl) | (apply e_fieldAddr; exact rfl; exact rfl; exact (ty rfl); exact rfl; exact rfl; exact rfl; exact rfl; exact rfl) | (apply e_ext; exact rfl; exact rfl; exact rfl; exact rfl) | (apply e_ixd; exact rfl; exact rfl; exact rfl; exact (ty rfl); exact rfl; exact (by first | omega | (simp; done) | (simp; omega)); exact (by first | omega | (simp; done) | (simp; omega)); exact (by first | rfl | assumption); exact rfl) | (apply e_ixl; exact rfl; exact rfl; exact rfl; exact (ty rfl); exact rfl; exact rfl; exact rfl; exact (by first | omega | (simp; done) | (simp; omega)); exact (by first | omega | (simp; done) | (simp; omega)); exact rfl) | (apply e_ld1p; exact rfl; exact rfl; exact (ty rfl); exact rfl; exact rfl; exact (by first | rfl | assumption | ((try simp only [Nat.zero_add]); refine List.getElem?_set_self ?_; (try simp only [List.length_set]); assumption)); exact rfl; exact rfl))
    | (show DE _ _ _ _ _ _ _ _ _ _ _ _; (first | (apply dr_nil; exact trivial) | (apply e_ldad; exact rfl; exact rfl; exact (ty rfl); exact rfl; exact rfl; exact rfl) | (apply e_callU; exact rfl; exact rfl; exact rfl; exact FzL.of rfl; exact other_ro cur ls[ix[i].toNat] _; exact rfl)); (try simp only [put, rowsOf, plR, List.all_cons, selE, ovr, setH, del, cellsA, splice, isV, List.nil_append, List.cons_append, List.map_cons, List.map_nil, List.length_cons, List.length_nil, List.set_cons_zero, List.set_cons_succ, List.take_succ_cons, List.take_zero, List.take_nil, List.drop_succ_cons, List.drop_zero, List.drop_nil, List.append_nil, List.all_cons, List.all_nil, Bool.and_true, Bool.true_and, Bool.and_false, Bool.false_and, Nat.reduceAdd, Nat.zero_add, Nat.add_zero, Nat.reduceEqDiff, if_true, if_false, reduceIte]))
    | (show AW _ _ _ _ _ _ _ _; first | refine aw_region ?_ | (refine aw_seqk ?_; intro K hK) | refine aw_block ?_ | (apply aw_cond_f; exact rfl; exact rfl) | (apply aw_cond_t; exact rfl; exact (by assumption)) | refine aw_skip ?_ | refine aw_drawE (id := 8) [0, 1, 0, 7, 15, 0, 0, 96, 224, 511, 1023, 2047, 2047, 4095, 16383] [0, 1, 0, 0, 1, 0, 0, 1, 1, 1, 0, 0, 0, 0, 0] mixed (by kernel_rfl) ?_ | (apply aw_ite; exact rfl; all_goals intro h))
    | refine thn_n ?_
    | (refine hK _ _ _ ?_; clear hK K)
    | refine inb_n ?_)); all_goals (repeat (clear hK K)))
      · rw [if_pos (by simp_all)] at hs
        refine ⟨i + 1, fun j => [0, 3].getD j 0, c2, by omega, ?_⟩
        (try dsimp only); rw [hN1, hs, List.map_append, List.length_append, ← hw3]
        exact ⟨by (repeat (refine ⟨by first | exact lk_i rfl rfl | exact lk_d rfl rfl | exact lk_r rfl rfl rfl | exact lk_s rfl rfl rfl rfl, ?_⟩)); exact trivial, by (repeat (refine ⟨by first | exact ⟨rfl, rfl, rfl⟩, ?_⟩)); exact trivial, by rfl, by exact pin_0⟩
      · rw [if_neg (by simp_all)] at hs
        refine ⟨i + 1, id, c2, by omega, ?_⟩
        (try dsimp only); rw [hN1, hs, ← hw3]
        exact ⟨by (repeat (refine ⟨by first | exact lk_i rfl rfl | exact lk_d rfl rfl | exact lk_r rfl rfl rfl | exact lk_s rfl rfl rfl rfl, ?_⟩)); exact trivial, by (repeat (refine ⟨by first | exact ⟨rfl, rfl, rfl⟩, ?_⟩)); exact trivial, by rfl, by exact pin_0⟩
      · rw [if_neg (by simp_all)] at hs
        refine ⟨i + 1, id, c2, by omega, ?_⟩
        (try dsimp only); rw [hN1, hs, ← hw3]
        exact ⟨by (repeat (refine ⟨by first | exact lk_i rfl rfl | exact lk_d rfl rfl | exact lk_r rfl rfl rfl | exact lk_s rfl rfl rfl rfl, ?_⟩)); exact trivial, by (repeat (refine ⟨by first | exact ⟨rfl, rfl, rfl⟩, ?_⟩)); exact trivial, by rfl, by exact pin_0⟩
    · have b2 : decide ((i : Int) < (ix.length : Int)) = false := by simpa using c2
      obtain rfl : i = ix.length := by omega
      have hqn : q < (rIn ls cur ix nodes ix.length).length := (List.getElem?_eq_some_iff.1 hcu).1
      have hw3 : IntKind.i64.wrap ((q : Int) + 1) = ((q + 1 : Nat) : Int) := by rw [IntWalk.i64_in _ (by omega)]; omega
      ((repeat' (first
    | (show SQ _ _ _ _ _ _ _ _; first | apply sq_nil | (apply q_move; exact rfl; exact rfl) | (apply q_assign; exact rfl; exact rfl) | (apply q_add; exact rfl; exact rfl; exact rfl) | (apply q_lss; exact rfl; exact rfl; exact rfl))
    | (show AW _ _ _ _ _ _ _ _; first | refine aw_region ?_ | (refine aw_seqk ?_; intro K hK) | (apply aw_cond_f; exact rfl; exact (by assumption)) | refine aw_exit ?_)
    | refine thn_n ?_
    | (refine hK _ _ _ ?_; clear hK K)
    | refine thn_e ?_
    | refine inb_same ?_
    | refine inb_n ?_
    | (clear hK K; refine hK _ _ _ ?_; clear hK K))); all_goals (repeat (clear hK K)))
      refine ⟨(q + 1, rIn ls cur ix nodes ix.length), id, ⟨hqn, hgi, ?_⟩, by dsimp only; omega, ?_⟩
      · dsimp only; rw [← hR, show n.toNat - (q + 1) = f by omega]
      · (try dsimp only); rw [← hw3]; exact ⟨by (repeat (refine ⟨by first | exact lk_i rfl rfl | exact lk_d rfl rfl | exact lk_r rfl rfl rfl | exact lk_s rfl rfl rfl rfl, ?_⟩)); exact trivial, by (repeat (refine ⟨by first | exact ⟨rfl, rfl, rfl⟩, ?_⟩)); exact trivial, by rfl, by exact pin_0⟩
  · have b1 : decide ((q : Int) < (nodes.length : Int)) = false := by simpa using c1
    have hE : reachF ls ix (n.toNat - q) q nodes = nodes := by
      cases n.toNat - q with
      | zero => rfl
      | succ f => rw [reachF, if_neg c1]
    rw [hE] at hR
    subst hR
    ((repeat' (first
    | (show SQ _ _ _ _ _ _ _ _; first | apply sq_nil | (apply q_move; exact rfl; exact rfl) | (apply q_assign; exact rfl; exact rfl) | (apply q_lenl; exact rfl; exact rfl; exact (ty rfl); exact rfl) | (apply q_lss; exact rfl; exact rfl; exact rfl))
    | (show AW _ _ _ _ _ _ _ _; first | refine aw_region ?_ | (refine aw_seqk ?_; intro K hK) | (apply aw_cond_f; exact rfl; exact (by assumption)) | refine aw_ret ?_ | refine aw_exit ?_)
    | refine thn_n ?_
    | (refine hK _ _ _ ?_; clear hK K)
    | refine thn_e ?_
    | refine inb_same ?_
    | (clear hK K; refine hK _ _ _ ?_; clear hK K))); all_goals (repeat (clear hK K)))
    all_goals exact fin_r (fin_m rfl rfl _ _ rfl rfl)
end Go.Proofs.Ytglfcaioapdiaaa.Bk
