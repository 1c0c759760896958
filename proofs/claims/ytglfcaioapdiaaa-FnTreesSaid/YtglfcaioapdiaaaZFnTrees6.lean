/-
  What the law FnTrees rests on, part 6.
-/
import Derived.Test.YtglfcaioapdiaaaZFnTrees5
namespace Go.Proofs.Ytglfcaioapdiaaa.Bk
open Go Go.RowKit Go.Proofs.Ytglfcaioapdiaaa.Aw
set_option linter.unusedSimpArgs false
set_option linter.unusedVariables false
attribute [local irreducible] AW SQ Step RO RC DE Thn InB
def ordK (ls : List Ln) : List Int := stF (ltO ls) (part0 ls.length)
theorem part0_up (m : Nat) : (part0 m).Pairwise (· < ·) := by
  unfold part0
  rw [List.pairwise_map]
  exact List.Pairwise.imp (fun h => by omega) List.pairwise_lt_range
theorem part0_mem {m : Nat} {x : Int} : x ∈ part0 m ↔ 0 ≤ x ∧ x < m := by
  unfold part0
  rw [List.mem_map]
  constructor
  · rintro ⟨j, hj, rfl⟩; have := List.mem_range.1 hj; omega
  · rintro ⟨h0, h1⟩; exact ⟨x.toNat, List.mem_range.2 (by omega), by omega⟩
theorem ordK_perm (ls : List Ln) : (ordK ls).Perm (part0 ls.length) := by
  by_cases h : 1 ≤ ls.length
  · exact (stF_sorted (K := kO ls) (part0_up _) (by rw [part0_len]; exact h)).1
  · have : ls.length = 0 := by omega
    unfold ordK stF
    rw [part0_len, this]; exact .refl _
theorem ordK_len (ls : List Ln) : (ordK ls).length = ls.length := by rw [(ordK_perm ls).length_eq, part0_len]
theorem ordK_in {ls : List Ln} {i : Nat} (h : i < (ordK ls).length) : 0 ≤ (ordK ls)[i] ∧ (ordK ls)[i] < ls.length :=
  part0_mem.1 ((ordK_perm ls).mem_iff.1 (List.getElem_mem h))
def spT (n : Int) (ls : List Ln) (ys : List Int) : Nat → List Int
  | 0 => []
  | i + 1 => if ((reachV n ls (spT n ls ys i) (lnAt ls (ys.getD i 0)).a).any fun y => y == (lnAt ls (ys.getD i 0)).b) = true then spT n ls ys i else spT n ls ys i ++ [ys.getD i 0]
theorem spT_len (n : Int) (ls : List Ln) (ys : List Int) : ∀ i, (spT n ls ys i).length ≤ i
  | 0 => Nat.le_refl _
  | i + 1 => by
    have := spT_len n ls ys i
    rw [spT]; split
    · omega
    · rw [List.length_append]; simp; omega
theorem spT_mem {n : Int} {ls : List Ln} {ys : List Int} : ∀ {i : Nat}, i ≤ ys.length → ∀ x ∈ spT n ls ys i, x ∈ ys
  | 0, _, x, h => by cases h
  | i + 1, hi, x, h => by
    rw [spT] at h
    split at h
    · exact spT_mem (i := i) (by omega) x h
    · rcases List.mem_append.1 h with h | h
      · exact spT_mem (i := i) (by omega) x h
      · rw [List.mem_singleton] at h; rw [h]; exact getD_mem (by omega)
def treK (n : Int) (ls : List Ln) : List Int := spT n ls (ordK ls) ls.length
set_option maxHeartbeats 4000000 in
theorem implSpan_bad_ro (n : Int) (ls : List Ln) (hn : ls.length ≤ 1048576) (h : bkB n ls = false) (k : Nat) : RO Try.prog 31 [.agg (bkL n ls)] k (.tup [.v (.slice none 0 0), .v (.int .i64 1)]) [] k := by
  have b1 : (!bkB n ls) = true := by rw [h]; rfl
  refine RO.ofp Try.func31 Try.ntmps31 rfl (goFn_of Try.func31 rfl (by kernel_rfl)) rfl rfl rfl ?_
  unfold bkL
  ((repeat' (first
    | (show SQ _ _ _ _ _ _ _ _; first | apply sq_nil | (apply q_assign; exact rfl; exact rfl) | (apply q_not; exact rfl; exact rfl))
    | (show SQ _ _ _ _ _ _ _ _; (first | (apply q_ldap; exact rfl; exact rfl; exact (ty rfl); exact rfl; exact rfl; exact (by first | rfl | assumption | ((try simp only [Nat.zero_add]); refine List.getElem?_set_self ?_; (try simp only [List.length_set]); assumption)); exact rfl) | (apply q_box; iterate 3 exact rfl) | (apply q_callU; (iterate 3 exact rfl); exact FzL.of rfl; exact ValidBackhaul_ro n ls hn _)); (try simp only [put, rowsOf, plR, selE, ovr, setH, del, cellsA, splice, isV, spq, if_true, if_false]))
    | (show AW _ _ _ _ _ _ _ _; first | refine aw_region ?_ | (refine aw_seqk ?_; intro K hK) | (apply aw_cond_t; exact rfl; exact (by assumption)) | refine aw_ret ?_)
    | refine thn_n ?_
    | (refine hK _ _ _ ?_; clear hK K)
    | refine thn_r ?_)); all_goals (repeat (clear hK K)))
  all_goals refine fin_r (fin_p (.r2 _ _ _ _ (.tmp _ _ rfl) (.tmp _ _ rfl)) ?_ rfl rfl rfl)
  all_goals rfl
theorem implSpan_none (n : Int) (ls : List Ln) (hn : ls.length ≤ 1048576) (h32 : ls.length ≤ 32) (h : bkB n ls = true) (hv : (((treK n ls).length : Int) ≠ n - 1)) (k : Nat) : RO Try.prog 31 [.agg (bkL n ls)] k (.tup [.v (.slice none 0 0), .v (.int .i64 3)]) [] k := by
  have b1 : (!bkB n ls) = false := by rw [h]; rfl
  obtain ⟨hN, hL⟩ := bkB_in h
  have hok := ValidBackhaul_ro n ls hn
  have hRe := fun ix frm hr hix hf => reached_ro n ls ix frm hN hn hr hL hix hf
  have hli : (ls.map lnL).length = ls.length := List.length_map _
  have hp0 := part0_len ls.length
  have hS := SortStable_rc n ls hn (part0 ls.length) (by omega) (fun x hx => part0_mem.1 hx)
  rw [hp0] at hS
  have hyl := ordK_len ls
  have hyi := fun i hi => ordK_in (ls := ls) (i := i) hi
  change ∀ bi k, RC _ _ _ _ _ _ [(bi, some ⟨_, _, _, (ordK ls).map inL⟩)] _ at hS
  have hTd : spT n ls (ordK ls) ls.length = treK n ls := rfl
  generalize treK n ls = Tk at *
  generalize ordK ls = ys at *
  have hyml : (ys.map inL).length = ls.length := by rw [List.length_map, hyl]
  refine RO.ofp Try.func31 Try.ntmps31 rfl (goFn_of Try.func31 rfl (by kernel_rfl)) rfl rfl rfl ?_
  unfold bkL at hok hRe ⊢
  unfold stC bkL at hS
  ((repeat' (first
    | (show SQ _ _ _ _ _ _ _ _; apply sq_frzp (t := 1); exact rfl; exact rfl; exact (by first | rfl | exact all_noOwn_map (fun _ => rfl) | assumption | exact hclo); exact (by first | rfl | assumption); exact rfl; (try simp only [put, rowsOf, plR, selE, ovr, setH, del, cellsA, splice, isV, spq, if_true, if_false]))
    | (show SQ _ _ _ _ _ _ _ _; first | apply sq_nil | (apply q_move; exact rfl; exact rfl) | (apply q_assign; exact rfl; exact rfl) | (apply q_fieldAddr; exact rfl; exact rfl; exact (ty rfl); iterate 4 exact rfl) | (apply q_not; exact rfl; exact rfl) | (apply q_lend; exact rfl; exact rfl; exact (ty rfl); exact rfl) | (apply q_lenl; exact rfl; exact rfl; exact (ty rfl); exact rfl) | (apply q_ld1d; exact rfl; exact rfl; exact (ty rfl); exact rfl; exact rfl))
    | (show SQ _ _ _ _ _ _ _ _; (first | (apply q_ldad; exact rfl; exact rfl; exact (ty rfl); exact rfl; exact rfl) | (apply q_box; iterate 3 exact rfl) | (apply q_mks; (iterate 3 exact rfl); exact (ty rfl); exact rfl; exact (by first | omega | (simp; done) | (simp; omega)); exact (by first | omega | (simp; done) | (simp; omega)); exact (by first | omega | (simp; done) | (simp; omega)); exact (by first | omega | (simp; done) | (simp; omega)); exact rfl; exact rfl) | (apply q_callU; (iterate 3 exact rfl); exact FzL.of rfl; exact hok _)); (try simp only [put, rowsOf, plR, selE, ovr, setH, del, cellsA, splice, isV, spq, if_true, if_false]))
    | (show AW _ _ _ _ _ _ _ _; first | refine aw_region ?_ | (refine aw_seqk ?_; intro K hK) | refine aw_block ?_ | (apply aw_cond_f; exact rfl; exact (by assumption)) | refine aw_skip ?_)
    | refine thn_n ?_
    | (refine hK _ _ _ ?_; clear hK K))); all_goals (repeat (clear hK K)))
  refine aw_loop (ρ := id) (ι := Nat) (fun i => ([(18, .v (.int .i64 i)), (17, .v (.int .i64 (ls.length : Nat))), (4, .sl 1 0 ls.length), (1, .dptr [.v (.int .i64 n), .dsl 4 (ls.map lnL)])], [(1, ⟨2, 1, true, (ramp (fun j : Nat => (j : Int)) (List.replicate ls.length 0) i).map inL⟩)], 2))
    (fun i => i ≤ ls.length) (fun i => ls.length - i) 0 (Nat.zero_le _) ⟨⟨lk_i rfl rfl, lk_i rfl (by simp), lk_s rfl rfl (by simp) rfl, lk_p rfl rfl, trivial⟩, ⟨lkb rfl rfl rfl (by (try dsimp only); simp only [ramp_zero, List.length_map, List.map_replicate, Int.toNat_natCast]; rfl) rfl, trivial⟩, by rfl, pin_0⟩ ?_
  intro i hi
  by_cases c2 : i < ls.length
  · have b2 : decide ((i : Int) < (ls.length : Int)) = true := by simpa using c2
    have hw3 : IntKind.i64.wrap ((i : Int) + 1) = ((i + 1 : Nat) : Int) := by rw [IntWalk.i64_in _ (by omega)]; omega
    have hrg := ramp_get (f := fun j : Nat => (j : Int)) (xs := List.replicate ls.length 0) (i := i) (by simpa using c2)
    have hr2 : ((ramp (fun j : Nat => (j : Int)) (List.replicate ls.length 0) i).map inL)[0 + ((i : Int)).toNat]? = some (inL 0) := by
      rw [List.getElem?_map, show 0 + ((i : Int)).toNat = i by omega, hrg]; simp
    rw [inL_eq] at hr2
    ((repeat' (first
    | (show SQ _ _ _ _ _ _ _ _; first | apply sq_nil | (apply q_move; exact rfl; exact rfl) | (apply q_assign; exact rfl; exact rfl) | (apply q_add; iterate 3 exact rfl) | (apply q_lss; iterate 3 exact rfl) | (apply q_ixl; (iterate 3 exact rfl); exact (ty rfl); (iterate 3 exact rfl); exact (by first | omega | (simp; done) | (simp; omega)); exact (by first | omega | (simp; done) | (simp; omega))))
    | (show SQ _ _ _ _ _ _ _ _; (first | (apply q_store; exact rfl; exact rfl; exact (ty rfl); exact rfl; exact (by first | rfl | assumption | ((try simp only [Nat.zero_add]); refine List.getElem?_set_self ?_; (try simp only [List.length_set]); assumption)); iterate 3 exact rfl)); (try simp only [put, rowsOf, plR, selE, ovr, setH, del, cellsA, splice, isV, spq, if_true, if_false]))
    | (show AW _ _ _ _ _ _ _ _; first | refine aw_region ?_ | (refine aw_seqk ?_; intro K hK) | refine aw_block ?_ | (apply aw_cond_t; exact rfl; exact (by assumption)) | refine aw_skip ?_)
    | refine thn_n ?_
    | (refine hK _ _ _ ?_; clear hK K)
    | refine inb_n ?_)); all_goals (repeat (clear hK K)))
    all_goals (refine ⟨i + 1, id, c2, by omega, ?_⟩; (try dsimp only); rw [← hw3]; exact ⟨by (repeat (refine ⟨by first | exact lk_i rfl rfl | exact lk_s rfl rfl rfl rfl | exact lk_p rfl rfl, ?_⟩)); exact trivial, by (repeat (refine ⟨by first | exact lkb rfl rfl rfl (by rw [← ramp_set (by simpa using c2), List.map_set]; simp; rfl) rfl, ?_⟩)); exact trivial, by rfl, by exact pin_0⟩)
  have b2 : decide ((i : Int) < (ls.length : Int)) = false := by simpa using c2
  obtain rfl : i = ls.length := by omega
  have hrf : ramp (fun j : Nat => (j : Int)) (List.replicate ls.length 0) ls.length = part0 ls.length := by
    have := ramp_full (f := fun j : Nat => (j : Int)) (xs := List.replicate ls.length 0)
    simp only [List.length_replicate] at this; rw [this]; rfl
  rw [hrf]
  ((repeat' (first
    | (show SQ _ _ _ _ _ _ _ _; first | apply sq_nil | (apply q_move; exact rfl; exact rfl) | (apply q_assign; exact rfl; exact rfl) | (apply q_lenl; exact rfl; exact rfl; exact (ty rfl); exact rfl) | (apply q_lss; iterate 3 exact rfl) | (apply q_mkf; exact rfl; exact rfl))
    | (show SQ _ _ _ _ _ _ _ _; (first | (apply q_callC; (iterate 3 exact rfl); exact hS _ _; (focus ((repeat (first | exact trivial | refine ⟨by first | exact rfl | assumption, ?_⟩)); done)); skip)); (try simp only [put, rowsOf, plR, selE, ovr, setH, del, cellsA, splice, isV, spq, if_true, if_false]))
    | (show AW _ _ _ _ _ _ _ _; first | refine aw_region ?_ | (refine aw_seqk ?_; intro K hK) | refine aw_block ?_ | (apply aw_cond_f; exact rfl; exact (by assumption)) | refine aw_exit ?_)
    | refine thn_n ?_
    | (refine hK _ _ _ ?_; clear hK K)
    | refine thn_e ?_
    | refine inb_same ?_
    | (clear hK K; refine hK _ _ _ ?_; clear hK K))); all_goals (repeat (clear hK K)))
  refine aw_nil (t := 6) 2 1 rfl ?_
  refine aw_loop (ρ := id) (ι := Nat) (fun i => ([(31, .v (.int .i64 i)), (30, .v (.int .i64 (ls.length : Nat))), (29, .sl 1 0 ls.length), (6, .sl 2 0 (spT n ls ys i).length), (1, .dptr [.v (.int .i64 n), .dsl 4 (ls.map lnL)])], [(1, ⟨2, 1, true, ys.map inL⟩), (2, ⟨2, 1, true, (spT n ls ys i).map inL⟩)], 3))
    (fun i => i ≤ ls.length) (fun i => ls.length - i) 0 (Nat.zero_le _) ⟨⟨lk_i rfl rfl, lk_i rfl rfl, lk_s rfl rfl rfl rfl, lk_s rfl rfl rfl rfl, lk_p rfl rfl, trivial⟩, by (repeat (refine ⟨by first | exact ⟨rfl, rfl, rfl⟩ | exact lkb rfl rfl rfl rfl rfl | exact lkn rfl rfl (by rfl) (by rfl) rfl, ?_⟩)); exact trivial, by rfl, pin_0⟩ ?_
  intro i hi
  have hlen := spT_len n ls ys i
  have hmem := spT_mem (n := n) (ls := ls) (ys := ys) (i := i) (by omega)
  have hml : ((spT n ls ys i).map inL).length = (spT n ls ys i).length := List.length_map _
  by_cases c2 : i < ls.length
  · have b2 : decide ((i : Int) < (ls.length : Int)) = true := by simpa using c2
    have hiy : i < ys.length := by omega
    have hyx : ys.getD i 0 = ys[i] := by simp [List.getD, hiy]
    have hyr := inL_get (xs := ys) (i := i) hiy
    obtain ⟨y0, y1⟩ := hyi i hiy
    have hsu : spT n ls ys (i + 1) = if ((reachV n ls (spT n ls ys i) (lnAt ls (ys.getD i 0)).a).any fun y => y == (lnAt ls (ys.getD i 0)).b) = true then spT n ls ys i else spT n ls ys i ++ [ys.getD i 0] := rfl
    rw [← hyx] at y0 y1
    obtain ⟨t, ht⟩ : ∃ t : Nat, ys.getD i 0 = (t : Int) := ⟨(ys.getD i 0).toNat, by omega⟩
    rw [ht] at hyr hsu
    have htl : t < ls.length := by omega
    have hlt : lnAt ls (t : Int) = ls[t] := by simp [lnAt, List.getD, htl]
    rw [hlt] at hsu
    have hrow2 : (ls.map lnL)[((t : Int)).toNat]? = some (lnL ls[t]) := by simp [htl]
    rw [lnL_eq] at hrow2
    obtain ⟨a0, a1, d0, d1⟩ := hL ls[t] (List.getElem_mem htl)
    have hix : ∀ x ∈ spT n ls ys i, 0 ≤ x ∧ x < ls.length := fun x hx => by
      obtain ⟨j, hj, rfl⟩ := List.getElem_of_mem (hmem x hx); exact hyi j hj
    have hR := hRe (spT n ls ys i) ls[t].a (by omega) hix ⟨a0, a1⟩
    have hgd := ((reachV_spec (ix := spT n ls ys i) hL hix ⟨a0, a1⟩).1).le (by omega)
    have hw3 : IntKind.i64.wrap ((i : Int) + 1) = ((i + 1 : Nat) : Int) := by rw [IntWalk.i64_in _ (by omega)]; omega
    generalize hNx : spT n ls ys (i + 1) = Nx at *
    generalize spT n ls ys i = ix at *
    generalize reachV n ls ix ls[t].a = rv at *
    have hC := slContains_ro rv (rv.map inL) ls[t].b rfl (by omega)
    have hml3 : (rv.map inL).length = rv.length := List.length_map _
    ((repeat' (first
    | (show SQ _ _ _ _ _ _ _ _; first | apply sq_nil | (apply q_move; exact rfl; exact rfl) | (apply q_assign; exact rfl; exact rfl) | (apply q_add; iterate 3 exact rfl) | (apply q_lss; iterate 3 exact rfl) | (apply q_ixl; (iterate 3 exact rfl); exact (ty rfl); (iterate 3 exact rfl); exact (by first | omega | (simp; done) | (simp; omega)); exact (by first | omega | (simp; done) | (simp; omega))) | (apply q_ld1p; exact rfl; exact rfl; exact (ty rfl); exact rfl; exact rfl; exact (by first | rfl | assumption | ((try simp only [Nat.zero_add]); refine List.getElem?_set_self ?_; (try simp only [List.length_set]); assumption)); exact rfl))
    | (show SQ _ _ _ _ _ _ _ _; (first | (apply q_buildn; exact rfl; exact (ty rfl); iterate 7 exact rfl) | (apply q_apo_s; (iterate 3 exact rfl); exact (ty rfl); exact rfl; exact rfl; exact (by first | omega | (simp; done) | (simp; omega)); exact (by first | exact List.take_of_length_le (by first | omega | (simp; done) | (simp; omega)) | rfl); exact (ty rfl); exact rfl; exact rfl; exact (by first | omega | (simp; done) | (simp; omega)); exact (by first | exact dt_full (by first | omega | (simp; done) | (simp; omega)) | assumption | rfl); exact rfl; exact (by first | omega | (simp; done) | (simp; omega)); exact (by first | omega | (simp; done) | (simp; omega)); exact (by first | assumption | exact rfl))); (try simp only [put, rowsOf, plR, selE, ovr, setH, del, cellsA, splice, isV, spq, if_true, if_false]))
    | (show DE _ _ _ _ _ _ _ _ _ _ _ _; first | (apply e_move; iterate 3 exact rfl) | (apply e_fieldAddr; exact rfl; exact rfl; exact (ty rfl); iterate 5 exact rfl) | (apply e_not; iterate 3 exact rfl) | (apply e_ixd; (iterate 3 exact rfl); exact (ty rfl); exact rfl; exact (by first | omega | (simp; done) | (simp; omega)); exact (by first | omega | (simp; done) | (simp; omega)); exact (by first | rfl | assumption); exact rfl) | (apply e_ld1d; exact rfl; exact rfl; exact (ty rfl); iterate 3 exact rfl))
    | (show DE _ _ _ _ _ _ _ _ _ _ _ _; (first | (apply dr_nil; exact trivial) | (apply e_ldad; exact rfl; exact rfl; exact (ty rfl); iterate 3 exact rfl) | (apply e_callU; (iterate 3 exact rfl); rotate_left; exact hR _; exact rfl; rotate_right; focus ((repeat' (first | exact FzL.nil | exact (by assumption : FzC _) _ | refine FzL.cons ?_ ?_ | exact Fz.of rfl | exact Fz.nil | exact Fz.emp | (apply Fz.fnC; assumption) | (apply Fz.sl2; exact rfl; exact (by first | omega | (simp; done) | (simp; omega)); first | exact rfl | exact dt_full (by first | omega | (simp; done) | (simp; omega)) | assumption) | apply Fz.agg | (apply Fz.ptrL; exact rfl; first | exact rfl | assumption) | apply Fz.fnL)); done)) | (apply e_callU; (iterate 3 exact rfl); rotate_left; exact hC _; exact rfl; rotate_right; focus ((repeat' (first | exact FzL.nil | exact (by assumption : FzC _) _ | refine FzL.cons ?_ ?_ | exact Fz.of rfl | exact Fz.nil | exact Fz.emp | (apply Fz.fnC; assumption) | (apply Fz.sl2; exact rfl; exact (by first | omega | (simp; done) | (simp; omega)); first | exact rfl | exact dt_full (by first | omega | (simp; done) | (simp; omega)) | assumption) | apply Fz.agg | (apply Fz.ptrL; exact rfl; first | exact rfl | assumption) | apply Fz.fnL)); done))); (try simp only [put, rowsOf, plR, selE, ovr, setH, del, cellsA, splice, isV, spq, if_true, if_false]))
    | (show AW _ _ _ _ _ _ _ _; first | refine aw_region ?_ | (refine aw_seqk ?_; intro K hK) | refine aw_block ?_ | (apply aw_cond_t; exact rfl; exact (by assumption)) | refine aw_skip ?_ | refine aw_drawE (id := 14) [0, 0, 0, 4, 0, 28, 60, 124, 255, 0, 512, 0, 3584, 7680, 15872, 32767, 65535] [1, 0, 0, 1, 0, 0, 0, 1, 1, 0, 1, 0, 0, 0, 1, 1, 0] mixed (by kernel_rfl) ?_ | (apply aw_ite; exact rfl; all_goals intro h))
    | refine thn_n ?_
    | (refine hK _ _ _ ?_; clear hK K)
    | refine inb_n ?_)); all_goals (repeat (clear hK K)))
    · have hb : (rv.any fun y => y == ls[t].b) = false := by have h := ‹(!rv.any fun y => y == ls[t].b) = true›; rwa [Bool.not_eq_true'] at h
      rw [if_neg (by rw [hb]; simp)] at hsu
      refine ⟨i + 1, fun j => [0, 1, 5].getD j 0, c2, by omega, ?_⟩
      (try dsimp only); rw [hNx, hsu, List.map_append, List.length_append, ← hw3]
      exact ⟨by (repeat (refine ⟨by first | exact lk_i rfl rfl | exact lk_s rfl rfl rfl rfl | exact lk_p rfl rfl, ?_⟩)); exact trivial, by (repeat (refine ⟨by first | exact ⟨rfl, rfl, rfl⟩, ?_⟩)); exact trivial, by rfl, by exact pin_0⟩
    · have hb : (rv.any fun y => y == ls[t].b) = true := by have h := ‹(!rv.any fun y => y == ls[t].b) = false›; rwa [Bool.not_eq_false'] at h
      rw [if_pos hb] at hsu
      refine ⟨i + 1, id, c2, by omega, ?_⟩
      (try dsimp only); rw [hNx, hsu, ← hw3]
      exact ⟨by (repeat (refine ⟨by first | exact lk_i rfl rfl | exact lk_s rfl rfl rfl rfl | exact lk_p rfl rfl, ?_⟩)); exact trivial, by (repeat (refine ⟨by first | exact ⟨rfl, rfl, rfl⟩, ?_⟩)); exact trivial, by rfl, by exact pin_0⟩
  have b2 : decide ((i : Int) < (ls.length : Int)) = false := by simpa using c2
  obtain rfl : i = ls.length := by omega
  rw [hTd] at hlen hml hmem ⊢
  have hSo := So.Sort_rc 2 Tk (by omega)
  have hw4 : IntKind.i64.wrap (n - 1) = n - 1 := IntWalk.i64_in _ (by omega)
  have b3 : ((Tk.length : Int) != IntKind.i64.wrap (n - 1)) = true := by rw [hw4]; simpa using hv
  ((repeat' (first
    | (show SQ _ _ _ _ _ _ _ _; first | apply sq_nil | (apply q_move; exact rfl; exact rfl) | (apply q_assign; exact rfl; exact rfl) | (apply q_fieldAddr; exact rfl; exact rfl; exact (ty rfl); iterate 4 exact rfl) | (apply q_lenl; exact rfl; exact rfl; exact (ty rfl); exact rfl) | (apply q_sub; iterate 3 exact rfl) | (apply q_neq; iterate 3 exact rfl) | (apply q_lss; iterate 3 exact rfl) | (apply q_ld1d; exact rfl; exact rfl; exact (ty rfl); exact rfl; exact rfl))
    | (show AW _ _ _ _ _ _ _ _; first | refine aw_region ?_ | (refine aw_seqk ?_; intro K hK) | (apply aw_cond_t; exact rfl; exact (by assumption)) | (apply aw_cond_f; exact rfl; exact (by assumption)) | refine aw_ret ?_ | refine aw_exit ?_)
    | refine thn_n ?_
    | (refine hK _ _ _ ?_; clear hK K)
    | refine thn_e ?_
    | refine thn_r ?_
    | refine inb_same ?_
    | (clear hK K; refine hK _ _ _ ?_; clear hK K))); all_goals (repeat (clear hK K)))
  all_goals ((refine fin_r (fin_p (.r2 _ _ _ _ (.tmp _ _ rfl) (.tmp _ _ rfl)) ?_ rfl rfl rfl); rfl))
theorem implSpan_okR (n : Int) (ls : List Ln) (hn : ls.length ≤ 1048576) (h32 : ls.length ≤ 32) (h : bkB n ls = true) (hv : (((treK n ls).length : Int) = n - 1)) (k : Nat) : RO Try.prog 31 [.agg (bkL n ls)] k (.tup [.sl k 0 (treK n ls).length, .v (.int .i64 0)]) [(k, ⟨2, 1, true, (So.srt (treK n ls)).map inL⟩)] (k + 1) := by
  have b1 : (!bkB n ls) = false := by rw [h]; rfl
  obtain ⟨hN, hL⟩ := bkB_in h
  have hok := ValidBackhaul_ro n ls hn
  have hRe := fun ix frm hr hix hf => reached_ro n ls ix frm hN hn hr hL hix hf
  have hli : (ls.map lnL).length = ls.length := List.length_map _
  have hp0 := part0_len ls.length
  have hS := SortStable_rc n ls hn (part0 ls.length) (by omega) (fun x hx => part0_mem.1 hx)
  rw [hp0] at hS
  have hyl := ordK_len ls
  have hyi := fun i hi => ordK_in (ls := ls) (i := i) hi
  change ∀ bi k, RC _ _ _ _ _ _ [(bi, some ⟨_, _, _, (ordK ls).map inL⟩)] _ at hS
  have hTd : spT n ls (ordK ls) ls.length = treK n ls := rfl
  generalize treK n ls = Tk at *
  generalize ordK ls = ys at *
  have hyml : (ys.map inL).length = ls.length := by rw [List.length_map, hyl]
  refine RO.ofm (.tup [.sl 0 0 Tk.length, .v (.int .i64 0)]) ([(0, ⟨2, 1, true, (So.srt Tk).map inL⟩)]) 1 Try.func31 Try.ntmps31 rfl (goFn_of Try.func31 rfl (by kernel_rfl)) rfl rfl (by simp [renA, renL]) (by simp [shH, renB]) rfl ?_
  unfold bkL at hok hRe ⊢
  unfold stC bkL at hS
  ((repeat' (first
    | (show SQ _ _ _ _ _ _ _ _; apply sq_frzp (t := 1); exact rfl; exact rfl; exact (by first | rfl | exact all_noOwn_map (fun _ => rfl) | assumption | exact hclo); exact (by first | rfl | assumption); exact rfl; (try simp only [put, rowsOf, plR, selE, ovr, setH, del, cellsA, splice, isV, spq, if_true, if_false]))
    | (show SQ _ _ _ _ _ _ _ _; first | apply sq_nil | (apply q_move; exact rfl; exact rfl) | (apply q_assign; exact rfl; exact rfl) | (apply q_fieldAddr; exact rfl; exact rfl; exact (ty rfl); iterate 4 exact rfl) | (apply q_not; exact rfl; exact rfl) | (apply q_lend; exact rfl; exact rfl; exact (ty rfl); exact rfl) | (apply q_lenl; exact rfl; exact rfl; exact (ty rfl); exact rfl) | (apply q_ld1d; exact rfl; exact rfl; exact (ty rfl); exact rfl; exact rfl))
    | (show SQ _ _ _ _ _ _ _ _; (first | (apply q_ldad; exact rfl; exact rfl; exact (ty rfl); exact rfl; exact rfl) | (apply q_box; iterate 3 exact rfl) | (apply q_mks; (iterate 3 exact rfl); exact (ty rfl); exact rfl; exact (by first | omega | (simp; done) | (simp; omega)); exact (by first | omega | (simp; done) | (simp; omega)); exact (by first | omega | (simp; done) | (simp; omega)); exact (by first | omega | (simp; done) | (simp; omega)); exact rfl; exact rfl) | (apply q_callU; (iterate 3 exact rfl); exact FzL.of rfl; exact hok _)); (try simp only [put, rowsOf, plR, selE, ovr, setH, del, cellsA, splice, isV, spq, if_true, if_false]))
    | (show AW _ _ _ _ _ _ _ _; first | refine aw_region ?_ | (refine aw_seqk ?_; intro K hK) | refine aw_block ?_ | (apply aw_cond_f; exact rfl; exact (by assumption)) | refine aw_skip ?_)
    | refine thn_n ?_
    | (refine hK _ _ _ ?_; clear hK K))); all_goals (repeat (clear hK K)))
  refine aw_loop (ρ := id) (ι := Nat) (fun i => ([(18, .v (.int .i64 i)), (17, .v (.int .i64 (ls.length : Nat))), (4, .sl 1 0 ls.length), (1, .dptr [.v (.int .i64 n), .dsl 4 (ls.map lnL)])], [(1, ⟨2, 1, true, (ramp (fun j : Nat => (j : Int)) (List.replicate ls.length 0) i).map inL⟩)], 2))
    (fun i => i ≤ ls.length) (fun i => ls.length - i) 0 (Nat.zero_le _) ⟨⟨lk_i rfl rfl, lk_i rfl (by simp), lk_s rfl rfl (by simp) rfl, lk_p rfl rfl, trivial⟩, ⟨lkb rfl rfl rfl (by (try dsimp only); simp only [ramp_zero, List.length_map, List.map_replicate, Int.toNat_natCast]; rfl) rfl, trivial⟩, by rfl, pin_0⟩ ?_
  intro i hi
  by_cases c2 : i < ls.length
  · have b2 : decide ((i : Int) < (ls.length : Int)) = true := by simpa using c2
    have hw3 : IntKind.i64.wrap ((i : Int) + 1) = ((i + 1 : Nat) : Int) := by rw [IntWalk.i64_in _ (by omega)]; omega
    have hrg := ramp_get (f := fun j : Nat => (j : Int)) (xs := List.replicate ls.length 0) (i := i) (by simpa using c2)
    have hr2 : ((ramp (fun j : Nat => (j : Int)) (List.replicate ls.length 0) i).map inL)[0 + ((i : Int)).toNat]? = some (inL 0) := by
      rw [List.getElem?_map, show 0 + ((i : Int)).toNat = i by omega, hrg]; simp
    rw [inL_eq] at hr2
    ((repeat' (first
    | (show SQ _ _ _ _ _ _ _ _; first | apply sq_nil | (apply q_move; exact rfl; exact rfl) | (apply q_assign; exact rfl; exact rfl) | (apply q_add; iterate 3 exact rfl) | (apply q_lss; iterate 3 exact rfl) | (apply q_ixl; (iterate 3 exact rfl); exact (ty rfl); (iterate 3 exact rfl); exact (by first | omega | (simp; done) | (simp; omega)); exact (by first | omega | (simp; done) | (simp; omega))))
    | (show SQ _ _ _ _ _ _ _ _; (first | (apply q_store; exact rfl; exact rfl; exact (ty rfl); exact rfl; exact (by first | rfl | assumption | ((try simp only [Nat.zero_add]); refine List.getElem?_set_self ?_; (try simp only [List.length_set]); assumption)); iterate 3 exact rfl)); (try simp only [put, rowsOf, plR, selE, ovr, setH, del, cellsA, splice, isV, spq, if_true, if_false]))
    | (show AW _ _ _ _ _ _ _ _; first | refine aw_region ?_ | (refine aw_seqk ?_; intro K hK) | refine aw_block ?_ | (apply aw_cond_t; exact rfl; exact (by assumption)) | refine aw_skip ?_)
    | refine thn_n ?_
    | (refine hK _ _ _ ?_; clear hK K)
    | refine inb_n ?_)); all_goals (repeat (clear hK K)))
    all_goals (refine ⟨i + 1, id, c2, by omega, ?_⟩; (try dsimp only); rw [← hw3]; exact ⟨by (repeat (refine ⟨by first | exact lk_i rfl rfl | exact lk_s rfl rfl rfl rfl | exact lk_p rfl rfl, ?_⟩)); exact trivial, by (repeat (refine ⟨by first | exact lkb rfl rfl rfl (by rw [← ramp_set (by simpa using c2), List.map_set]; simp; rfl) rfl, ?_⟩)); exact trivial, by rfl, by exact pin_0⟩)
  have b2 : decide ((i : Int) < (ls.length : Int)) = false := by simpa using c2
  obtain rfl : i = ls.length := by omega
  have hrf : ramp (fun j : Nat => (j : Int)) (List.replicate ls.length 0) ls.length = part0 ls.length := by
    have := ramp_full (f := fun j : Nat => (j : Int)) (xs := List.replicate ls.length 0)
    simp only [List.length_replicate] at this; rw [this]; rfl
  rw [hrf]
  ((repeat' (first
    | (show SQ _ _ _ _ _ _ _ _; first | apply sq_nil | (apply q_move; exact rfl; exact rfl) | (apply q_assign; exact rfl; exact rfl) | (apply q_lenl; exact rfl; exact rfl; exact (ty rfl); exact rfl) | (apply q_lss; iterate 3 exact rfl) | (apply q_mkf; exact rfl; exact rfl))
    | (show SQ _ _ _ _ _ _ _ _; (first | (apply q_callC; (iterate 3 exact rfl); exact hS _ _; (focus ((repeat (first | exact trivial | refine ⟨by first | exact rfl | assumption, ?_⟩)); done)); skip)); (try simp only [put, rowsOf, plR, selE, ovr, setH, del, cellsA, splice, isV, spq, if_true, if_false]))
    | (show AW _ _ _ _ _ _ _ _; first | refine aw_region ?_ | (refine aw_seqk ?_; intro K hK) | refine aw_block ?_ | (apply aw_cond_f; exact rfl; exact (by assumption)) | refine aw_exit ?_)
    | refine thn_n ?_
    | (refine hK _ _ _ ?_; clear hK K)
    | refine thn_e ?_
    | refine inb_same ?_
    | (clear hK K; refine hK _ _ _ ?_; clear hK K))); all_goals (repeat (clear hK K)))
  refine aw_nil (t := 6) 2 1 rfl ?_
  refine aw_loop (ρ := id) (ι := Nat) (fun i => ([(31, .v (.int .i64 i)), (30, .v (.int .i64 (ls.length : Nat))), (29, .sl 1 0 ls.length), (6, .sl 2 0 (spT n ls ys i).length), (1, .dptr [.v (.int .i64 n), .dsl 4 (ls.map lnL)])], [(1, ⟨2, 1, true, ys.map inL⟩), (2, ⟨2, 1, true, (spT n ls ys i).map inL⟩)], 3))
    (fun i => i ≤ ls.length) (fun i => ls.length - i) 0 (Nat.zero_le _) ⟨⟨lk_i rfl rfl, lk_i rfl rfl, lk_s rfl rfl rfl rfl, lk_s rfl rfl rfl rfl, lk_p rfl rfl, trivial⟩, by (repeat (refine ⟨by first | exact ⟨rfl, rfl, rfl⟩ | exact lkb rfl rfl rfl rfl rfl | exact lkn rfl rfl (by rfl) (by rfl) rfl, ?_⟩)); exact trivial, by rfl, pin_0⟩ ?_
  intro i hi
  have hlen := spT_len n ls ys i
  have hmem := spT_mem (n := n) (ls := ls) (ys := ys) (i := i) (by omega)
  have hml : ((spT n ls ys i).map inL).length = (spT n ls ys i).length := List.length_map _
  by_cases c2 : i < ls.length
  · have b2 : decide ((i : Int) < (ls.length : Int)) = true := by simpa using c2
    have hiy : i < ys.length := by omega
    have hyx : ys.getD i 0 = ys[i] := by simp [List.getD, hiy]
    have hyr := inL_get (xs := ys) (i := i) hiy
    obtain ⟨y0, y1⟩ := hyi i hiy
    have hsu : spT n ls ys (i + 1) = if ((reachV n ls (spT n ls ys i) (lnAt ls (ys.getD i 0)).a).any fun y => y == (lnAt ls (ys.getD i 0)).b) = true then spT n ls ys i else spT n ls ys i ++ [ys.getD i 0] := rfl
    rw [← hyx] at y0 y1
    obtain ⟨t, ht⟩ : ∃ t : Nat, ys.getD i 0 = (t : Int) := ⟨(ys.getD i 0).toNat, by omega⟩
    rw [ht] at hyr hsu
    have htl : t < ls.length := by omega
    have hlt : lnAt ls (t : Int) = ls[t] := by simp [lnAt, List.getD, htl]
    rw [hlt] at hsu
    have hrow2 : (ls.map lnL)[((t : Int)).toNat]? = some (lnL ls[t]) := by simp [htl]
    rw [lnL_eq] at hrow2
    obtain ⟨a0, a1, d0, d1⟩ := hL ls[t] (List.getElem_mem htl)
    have hix : ∀ x ∈ spT n ls ys i, 0 ≤ x ∧ x < ls.length := fun x hx => by
      obtain ⟨j, hj, rfl⟩ := List.getElem_of_mem (hmem x hx); exact hyi j hj
    have hR := hRe (spT n ls ys i) ls[t].a (by omega) hix ⟨a0, a1⟩
    have hgd := ((reachV_spec (ix := spT n ls ys i) hL hix ⟨a0, a1⟩).1).le (by omega)
    have hw3 : IntKind.i64.wrap ((i : Int) + 1) = ((i + 1 : Nat) : Int) := by rw [IntWalk.i64_in _ (by omega)]; omega
    generalize hNx : spT n ls ys (i + 1) = Nx at *
    generalize spT n ls ys i = ix at *
    generalize reachV n ls ix ls[t].a = rv at *
    have hC := slContains_ro rv (rv.map inL) ls[t].b rfl (by omega)
    have hml3 : (rv.map inL).length = rv.length := List.length_map _
    ((repeat' (first
    | (show SQ _ _ _ _ _ _ _ _; first | apply sq_nil | (apply q_move; exact rfl; exact rfl) | (apply q_assign; exact rfl; exact rfl) | (apply q_add; iterate 3 exact rfl) | (apply q_lss; iterate 3 exact rfl) | (apply q_ixl; (iterate 3 exact rfl); exact (ty rfl); (iterate 3 exact rfl); exact (by first | omega | (simp; done) | (simp; omega)); exact (by first | omega | (simp; done) | (simp; omega))) | (apply q_ld1p; exact rfl; exact rfl; exact (ty rfl); exact rfl; exact rfl; exact (by first | rfl | assumption | ((try simp only [Nat.zero_add]); refine List.getElem?_set_self ?_; (try simp only [List.length_set]); assumption)); exact rfl))
    | (show SQ _ _ _ _ _ _ _ _; (first | (apply q_buildn; exact rfl; exact (ty rfl); iterate 7 exact rfl) | (apply q_apo_s; (iterate 3 exact rfl); exact (ty rfl); exact rfl; exact rfl; exact (by first | omega | (simp; done) | (simp; omega)); exact (by first | exact List.take_of_length_le (by first | omega | (simp; done) | (simp; omega)) | rfl); exact (ty rfl); exact rfl; exact rfl; exact (by first | omega | (simp; done) | (simp; omega)); exact (by first | exact dt_full (by first | omega | (simp; done) | (simp; omega)) | assumption | rfl); exact rfl; exact (by first | omega | (simp; done) | (simp; omega)); exact (by first | omega | (simp; done) | (simp; omega)); exact (by first | assumption | exact rfl))); (try simp only [put, rowsOf, plR, selE, ovr, setH, del, cellsA, splice, isV, spq, if_true, if_false]))
    | (show DE _ _ _ _ _ _ _ _ _ _ _ _; first | (apply e_move; iterate 3 exact rfl) | (apply e_fieldAddr; exact rfl; exact rfl; exact (ty rfl); iterate 5 exact rfl) | (apply e_not; iterate 3 exact rfl) | (apply e_ixd; (iterate 3 exact rfl); exact (ty rfl); exact rfl; exact (by first | omega | (simp; done) | (simp; omega)); exact (by first | omega | (simp; done) | (simp; omega)); exact (by first | rfl | assumption); exact rfl) | (apply e_ld1d; exact rfl; exact rfl; exact (ty rfl); iterate 3 exact rfl))
    | (show DE _ _ _ _ _ _ _ _ _ _ _ _; (first | (apply dr_nil; exact trivial) | (apply e_ldad; exact rfl; exact rfl; exact (ty rfl); iterate 3 exact rfl) | (apply e_callU; (iterate 3 exact rfl); rotate_left; exact hR _; exact rfl; rotate_right; focus ((repeat' (first | exact FzL.nil | exact (by assumption : FzC _) _ | refine FzL.cons ?_ ?_ | exact Fz.of rfl | exact Fz.nil | exact Fz.emp | (apply Fz.fnC; assumption) | (apply Fz.sl2; exact rfl; exact (by first | omega | (simp; done) | (simp; omega)); first | exact rfl | exact dt_full (by first | omega | (simp; done) | (simp; omega)) | assumption) | apply Fz.agg | (apply Fz.ptrL; exact rfl; first | exact rfl | assumption) | apply Fz.fnL)); done)) | (apply e_callU; (iterate 3 exact rfl); rotate_left; exact hC _; exact rfl; rotate_right; focus ((repeat' (first | exact FzL.nil | exact (by assumption : FzC _) _ | refine FzL.cons ?_ ?_ | exact Fz.of rfl | exact Fz.nil | exact Fz.emp | (apply Fz.fnC; assumption) | (apply Fz.sl2; exact rfl; exact (by first | omega | (simp; done) | (simp; omega)); first | exact rfl | exact dt_full (by first | omega | (simp; done) | (simp; omega)) | assumption) | apply Fz.agg | (apply Fz.ptrL; exact rfl; first | exact rfl | assumption) | apply Fz.fnL)); done))); (try simp only [put, rowsOf, plR, selE, ovr, setH, del, cellsA, splice, isV, spq, if_true, if_false]))
    | (show AW _ _ _ _ _ _ _ _; first | refine aw_region ?_ | (refine aw_seqk ?_; intro K hK) | refine aw_block ?_ | (apply aw_cond_t; exact rfl; exact (by assumption)) | refine aw_skip ?_ | refine aw_drawE (id := 14) [0, 0, 0, 4, 0, 28, 60, 124, 255, 0, 512, 0, 3584, 7680, 15872, 32767, 65535] [1, 0, 0, 1, 0, 0, 0, 1, 1, 0, 1, 0, 0, 0, 1, 1, 0] mixed (by kernel_rfl) ?_ | (apply aw_ite; exact rfl; all_goals intro h))
    | refine thn_n ?_
    | (refine hK _ _ _ ?_; clear hK K)
    | refine inb_n ?_)); all_goals (repeat (clear hK K)))
    · have hb : (rv.any fun y => y == ls[t].b) = false := by have h := ‹(!rv.any fun y => y == ls[t].b) = true›; rwa [Bool.not_eq_true'] at h
      rw [if_neg (by rw [hb]; simp)] at hsu
      refine ⟨i + 1, fun j => [0, 1, 5].getD j 0, c2, by omega, ?_⟩
      (try dsimp only); rw [hNx, hsu, List.map_append, List.length_append, ← hw3]
      exact ⟨by (repeat (refine ⟨by first | exact lk_i rfl rfl | exact lk_s rfl rfl rfl rfl | exact lk_p rfl rfl, ?_⟩)); exact trivial, by (repeat (refine ⟨by first | exact ⟨rfl, rfl, rfl⟩, ?_⟩)); exact trivial, by rfl, by exact pin_0⟩
    · have hb : (rv.any fun y => y == ls[t].b) = true := by have h := ‹(!rv.any fun y => y == ls[t].b) = false›; rwa [Bool.not_eq_false'] at h
      rw [if_pos hb] at hsu
      refine ⟨i + 1, id, c2, by omega, ?_⟩
      (try dsimp only); rw [hNx, hsu, ← hw3]
      exact ⟨by (repeat (refine ⟨by first | exact lk_i rfl rfl | exact lk_s rfl rfl rfl rfl | exact lk_p rfl rfl, ?_⟩)); exact trivial, by (repeat (refine ⟨by first | exact ⟨rfl, rfl, rfl⟩, ?_⟩)); exact trivial, by rfl, by exact pin_0⟩
  have b2 : decide ((i : Int) < (ls.length : Int)) = false := by simpa using c2
  obtain rfl : i = ls.length := by omega
  rw [hTd] at hlen hml hmem ⊢
  have hSo := So.Sort_rc 2 Tk (by omega)
  have hw4 : IntKind.i64.wrap (n - 1) = n - 1 := IntWalk.i64_in _ (by omega)
  have b3 : ((Tk.length : Int) != IntKind.i64.wrap (n - 1)) = false := by rw [hw4]; simpa using hv
  ((repeat' (first
    | (show SQ _ _ _ _ _ _ _ _; first | apply sq_nil | (apply q_move; exact rfl; exact rfl) | (apply q_assign; exact rfl; exact rfl) | (apply q_fieldAddr; exact rfl; exact rfl; exact (ty rfl); iterate 4 exact rfl) | (apply q_lenl; exact rfl; exact rfl; exact (ty rfl); exact rfl) | (apply q_sub; iterate 3 exact rfl) | (apply q_neq; iterate 3 exact rfl) | (apply q_lss; iterate 3 exact rfl) | (apply q_ld1d; exact rfl; exact rfl; exact (ty rfl); exact rfl; exact rfl))
    | (show SQ _ _ _ _ _ _ _ _; (first | (apply q_callC; (iterate 3 exact rfl); exact hSo _; (focus ((repeat (first | exact trivial | refine ⟨by first | exact rfl | assumption, ?_⟩)); done)); skip)); (try simp only [put, rowsOf, plR, selE, ovr, setH, del, cellsA, splice, isV, spq, if_true, if_false]))
    | (show AW _ _ _ _ _ _ _ _; first | refine aw_region ?_ | (refine aw_seqk ?_; intro K hK) | (apply aw_cond_f; exact rfl; exact (by assumption)) | refine aw_ret ?_ | refine aw_exit ?_ | refine aw_skip ?_)
    | refine thn_n ?_
    | (refine hK _ _ _ ?_; clear hK K)
    | refine thn_e ?_
    | refine inb_same ?_
    | (clear hK K; refine hK _ _ _ ?_; clear hK K))); all_goals (repeat (clear hK K)))
  all_goals (exact fin_r (fin_m2 rfl rfl rfl _ _ rfl rfl rfl))
end Go.Proofs.Ytglfcaioapdiaaa.Bk

namespace Go.Proofs.Ytglfcaioapdiaaa.Bk
open Go
set_option linter.unusedSimpArgs false
set_option linter.unusedVariables false
def mb (m : Nat) (ix : List Int) : List Bool := (List.range m).map fun i : Nat => ix.any fun y => y == (i : Int)
theorem mb_len (m : Nat) (ix : List Int) : (mb m ix).length = m := by simp [mb]
theorem mb_get {m i : Nat} {ix : List Int} (h : i < m) : (mb m ix).getD i false = ix.any fun y => y == (i : Int) := by simp [mb, List.getD, h]
theorem mb_set {m a : Nat} {ix : List Int} (h : a < m) : (mb m ix).set a true = mb m (ix ++ [(a : Int)]) := by
  apply List.ext_getElem?
  intro x
  rw [List.getElem?_set, mb_len]
  by_cases hx : x < m
  · split
    · rename_i e; subst e; simp [mb, hx]
    · rename_i e
      have : ((a : Int) == (x : Int)) = false := by simp; omega
      simp [mb, hx, this]
  · rw [if_neg (by omega), List.getElem?_eq_none (by rw [mb_len]; omega), List.getElem?_eq_none (by rw [mb_len]; omega)]
theorem mb_nil (m : Nat) : mb m [] = List.replicate m false := by
  apply List.ext_getElem?
  intro x
  by_cases hx : x < m <;> simp [mb, hx]
theorem any_mem {ix : List Int} {x : Int} : (ix.any fun y => y == x) = true ↔ x ∈ ix := by
  rw [List.any_eq_true]
  exact ⟨fun ⟨y, h1, h2⟩ => by rw [beq_iff_eq] at h2; exact h2 ▸ h1, fun h => ⟨x, h, by simp⟩⟩
def amn (ls : List Ln) (sn : List Int) : Nat → Int
  | 0 => -1
  | i + 1 => if (!(sn.any fun y => y == (i : Int)) && (decide (amn ls sn i < 0) || decide (kO ls (i : Int) < kO ls (amn ls sn i)))) = true then (i : Int) else amn ls sn i
theorem amn_spec (ls : List Ln) (sn : List Int) : ∀ i : Nat, (amn ls sn i = -1 ∧ ∀ j : Nat, j < i → (j : Int) ∈ sn) ∨ (0 ≤ amn ls sn i ∧ amn ls sn i < i ∧ amn ls sn i ∉ sn ∧ ∀ j : Nat, j < i → (j : Int) ∉ sn → (j : Int) ≠ amn ls sn i → Lx (kO ls) (amn ls sn i) j)
  | 0 => .inl ⟨rfl, fun j h => by omega⟩
  | i + 1 => by
    have ih := amn_spec ls sn i
    rw [amn]
    by_cases hs : (i : Int) ∈ sn
    · have : (sn.any fun y => y == (i : Int)) = true := any_mem.2 hs
      rw [if_neg (by rw [this]; simp)]
      rcases ih with ⟨h1, h2⟩ | ⟨h1, h2, h3, h4⟩
      · refine .inl ⟨h1, fun j hj => ?_⟩
        by_cases e : j = i
        · subst e; exact hs
        · exact h2 j (by omega)
      · refine .inr ⟨h1, by omega, h3, fun j hj hn hne => ?_⟩
        by_cases e : j = i
        · subst e; exact absurd hs hn
        · exact h4 j (by omega) hn hne
    · have : (sn.any fun y => y == (i : Int)) = false := by
        cases h : (sn.any fun y => y == (i : Int)) with
        | false => rfl
        | true => exact absurd (any_mem.1 h) hs
      rw [this]
      rcases ih with ⟨h1, h2⟩ | ⟨h1, h2, h3, h4⟩
      · rw [if_pos (by rw [h1]; simp)]
        refine .inr ⟨by omega, by omega, hs, fun j hj hn hne => ?_⟩
        exact absurd (h2 j (by omega)) hn
      · by_cases c : kO ls (i : Int) < kO ls (amn ls sn i)
        · rw [if_pos (by simp [c])]
          refine .inr ⟨by omega, by omega, hs, fun j hj hn hne => ?_⟩
          by_cases e : (j : Int) = amn ls sn i
          · rw [e]; exact .inl c
          · have := h4 j (by omega) hn e
            exact Lx.trans (.inl c) this
        · rw [if_neg (by simp [c]; omega)]
          refine .inr ⟨h1, by omega, h3, fun j hj hn hne => ?_⟩
          by_cases e : j = i
          · subst e; unfold Lx; omega
          · exact h4 j (by omega) hn hne
theorem Lx.irr {K : Int → Int} {x y : Int} (h : Lx K x y) (h' : Lx K y x) : False := by unfold Lx at *; omega
theorem amn_ord {ls : List Ln} {t : Nat} (h : t < ls.length) : amn ls ((ordK ls).take t) ls.length = (ordK ls).getD t 0 := by
  have hp := ordK_perm ls
  have hl := ordK_len ls
  have hs : (ordK ls).Pairwise (Lx (kO ls)) := (stF_sorted (K := kO ls) (part0_up _) (by rw [part0_len]; omega)).2
  generalize ordK ls = ys at *
  have hmem : ∀ x, x ∈ ys ↔ 0 ≤ x ∧ x < ls.length := fun x => by rw [hp.mem_iff]; exact part0_mem
  have hyt : ys.getD t 0 ∈ ys := getD_mem (by omega)
  have hnt : ys.getD t 0 ∉ ys.take t := fun hm => by
    obtain ⟨j, hj, e⟩ := mem_getD hm
    have hj' : j < t := by rw [List.length_take] at hj; omega
    have e2 : (ys.take t).getD j 0 = ys.getD j 0 := by simp only [List.getD]; rw [List.getElem?_take_of_lt hj']
    rw [e2] at e
    have := pw_at hs hj' (by omega)
    rw [e] at this
    exact this.irr this
  rcases amn_spec ls (ys.take t) ls.length with ⟨_, h2⟩ | ⟨h1, h2, h3, h4⟩
  · obtain ⟨g0, g1⟩ := (hmem _).1 hyt
    have := h2 (ys.getD t 0).toNat (by omega)
    rw [Int.toNat_of_nonneg g0] at this
    exact absurd this hnt
  · generalize amn ls (ys.take t) ls.length = a at *
    obtain ⟨j, hj, e⟩ := mem_getD ((hmem a).2 ⟨h1, h2⟩)
    have htj : t ≤ j := by
      apply Nat.le_of_not_lt
      intro hlt
      refine h3 ?_
      rw [← e]
      have : (ys.take t).getD j 0 = ys.getD j 0 := by simp only [List.getD]; rw [List.getElem?_take_of_lt hlt]
      rw [← this]
      exact getD_mem (by rw [List.length_take]; omega)
    by_cases hjt : j = t
    · rw [← e, hjt]
    · obtain ⟨g0, g1⟩ := (hmem _).1 hyt
      have hl1 := pw_at hs (show t < j by omega) hj
      rw [e] at hl1
      have hne : ((ys.getD t 0).toNat : Int) ≠ a := fun h => by
        rw [Int.toNat_of_nonneg g0] at h
        rw [h] at hl1; exact hl1.irr hl1
      have := h4 (ys.getD t 0).toNat (by omega) (by rw [Int.toNat_of_nonneg g0]; exact hnt) hne
      rw [Int.toNat_of_nonneg g0] at this
      exact (hl1.irr this).elim
def pst (xs : List Int) (x : Int) : Nat → List Int × Bool
  | 0 => ([], false)
  | i + 1 => if (!(pst xs x i).2 && decide (x ≤ xs.getD i 0)) = true then ((if x < xs.getD i 0 then (pst xs x i).1 ++ [x] else (pst xs x i).1) ++ [xs.getD i 0], true) else ((pst xs x i).1 ++ [xs.getD i 0], (pst xs x i).2)
def putV (xs : List Int) (x : Int) : List Int := if (pst xs x xs.length).2 = true then (pst xs x xs.length).1 else (pst xs x xs.length).1 ++ [x]
theorem pst_len (xs : List Int) (x : Int) : ∀ i, (pst xs x i).1.length ≤ i + 1 ∧ ((pst xs x i).2 = false → (pst xs x i).1.length = i)
  | 0 => ⟨Nat.zero_le _, fun _ => rfl⟩
  | i + 1 => by
    have ih := pst_len xs x i
    rw [pst]
    split
    · rename_i h
      simp only [Bool.and_eq_true, Bool.not_eq_true'] at h
      have := ih.2 h.1
      refine ⟨?_, fun h => by cases h⟩
      split <;> simp <;> omega
    · exact ⟨by simp; omega, fun h => by simp [ih.2 h]⟩
theorem pst_spec {xs : List Int} {x : Int} (hs : xs.Pairwise (· < ·)) (hx : x ∉ xs) : ∀ i, i ≤ xs.length → (pst xs x i).1.Pairwise (· < ·) ∧ (pst xs x i).1.Perm (if (pst xs x i).2 = true then x :: xs.take i else xs.take i) ∧ ((pst xs x i).2 = false → ∀ y ∈ xs.take i, y < x)
  | 0, _ => ⟨List.Pairwise.nil, .refl _, fun _ y h => by simp at h⟩
  | i + 1, hi => by
    obtain ⟨h1, h2, h3⟩ := pst_spec hs hx i (by omega)
    have hg : xs.getD i 0 = xs[i] := by simp [List.getD, show i < xs.length by omega]
    have htk : xs.take (i + 1) = xs.take i ++ [xs[i]] := List.take_succ_eq_append_getElem (by omega)
    have hlt : ∀ y ∈ xs.take i, y < xs[i] := fun y hy => by
      obtain ⟨j, hj, rfl⟩ := List.getElem_of_mem hy
      rw [List.length_take] at hj
      rw [List.getElem_take]
      exact List.pairwise_iff_getElem.1 hs j i (by omega) (by omega) (by omega)
    have hne : xs[i] ≠ x := fun e => hx (e ▸ List.getElem_mem _)
    rw [pst, hg, htk]
    cases hd : (pst xs x i).2 with
    | true =>
      rw [hd] at h2
      simp only [if_true, Bool.not_true, Bool.false_and, Bool.false_eq_true, if_false] at h2 ⊢
      refine ⟨List.pairwise_append.2 ⟨h1, List.pairwise_singleton _ _, fun a ha b hb => ?_⟩, h2.append_right [xs[i]], fun h => by cases h⟩
      rw [List.mem_singleton] at hb
      subst hb
      rcases List.mem_cons.1 (h2.mem_iff.1 ha) with rfl | ha
      · -- x was put in before an item that is not less
        have : ∀ k, k ≤ i → (pst xs a k).2 = true → ∃ j, j < k ∧ a < xs.getD j 0 := by
          intro k
          induction k with
          | zero => intro _ h; cases h
          | succ k ih =>
            intro hk h
            rw [pst] at h
            split at h
            · rename_i hc
              simp only [Bool.and_eq_true, decide_eq_true_eq] at hc
              have e : xs.getD k 0 = xs[k] := by simp [List.getD, show k < xs.length by omega]
              have : xs[k] ≠ a := fun e => hx (e ▸ List.getElem_mem _)
              exact ⟨k, by omega, by rw [e] at hc ⊢; omega⟩
            · obtain ⟨j, hj, hl⟩ := ih (by omega) h
              exact ⟨j, by omega, hl⟩
        obtain ⟨j, hj, hl⟩ := this i (Nat.le_refl _) hd
        have e : xs.getD j 0 = xs[j] := by simp [List.getD, show j < xs.length by omega]
        rw [e] at hl
        have := List.pairwise_iff_getElem.1 hs j i (by omega) (by omega) hj
        omega
      · exact hlt a ha
    | false =>
      rw [hd] at h2
      simp only [Bool.false_eq_true, if_false, Bool.not_false, Bool.true_and] at h2 ⊢
      have h3 := h3 hd
      by_cases c : x ≤ xs[i]
      · have c2 : x < xs[i] := by omega
        rw [if_pos (by simpa using c), if_pos c2]
        refine ⟨List.pairwise_append.2 ⟨List.pairwise_append.2 ⟨h1, List.pairwise_singleton _ _, fun a ha b hb => ?_⟩, List.pairwise_singleton _ _, fun a ha b hb => ?_⟩, ?_, fun h => by cases h⟩
        · rw [List.mem_singleton] at hb; subst hb; exact h3 a (h2.mem_iff.1 ha)
        · rw [List.mem_singleton] at hb; subst hb
          rcases List.mem_append.1 ha with ha | ha
          · exact hlt a (h2.mem_iff.1 ha)
          · rw [List.mem_singleton] at ha; subst ha; exact c2
        · simp only [if_true]
          refine (List.Perm.append_right [xs[i]] (?_ : ((pst xs x i).1 ++ [x]).Perm (x :: xs.take i)))
          exact (List.perm_append_comm (l₂ := [x])).trans (List.Perm.cons x h2)
      · rw [if_neg (by simpa using c)]
        simp only [Bool.false_eq_true, if_false]
        refine ⟨List.pairwise_append.2 ⟨h1, List.pairwise_singleton _ _, fun a ha b hb => ?_⟩, h2.append_right [xs[i]], fun _ y hy => ?_⟩
        · rw [List.mem_singleton] at hb; subst hb; exact hlt a (h2.mem_iff.1 ha)
        · rcases List.mem_append.1 hy with hy | hy
          · exact h3 y hy
          · rw [List.mem_singleton] at hy; omega
theorem putV_spec {xs : List Int} {x : Int} (hs : xs.Pairwise (· < ·)) (hx : x ∉ xs) : (putV xs x).Pairwise (· < ·) ∧ (putV xs x).Perm (xs ++ [x]) := by
  obtain ⟨h1, h2, h3⟩ := pst_spec hs hx xs.length (Nat.le_refl _)
  unfold putV
  rw [List.take_length] at h2 h3
  cases hd : (pst xs x xs.length).2 with
  | true =>
    rw [hd] at h2
    simp only [if_true] at h2 ⊢
    exact ⟨h1, h2.trans (List.perm_append_comm (l₁ := [x]))⟩
  | false =>
    rw [hd] at h2
    simp only [Bool.false_eq_true, if_false] at h2 ⊢
    refine ⟨List.pairwise_append.2 ⟨h1, List.pairwise_singleton _ _, fun a ha b hb => ?_⟩, h2.append_right [x]⟩
    rw [List.mem_singleton] at hb; subst hb; exact h3 hd a (h2.mem_iff.1 ha)
theorem srt_up {xs : List Int} (h : xs.Nodup) : (So.srt xs).Pairwise (· < ·) ∧ (So.srt xs).Perm xs := by
  have hp : (So.srt xs).Perm xs := List.mergeSort_perm _ _
  have hs : (So.srt xs).Pairwise fun a b => decide (a ≤ b) = true := List.pairwise_mergeSort (fun a b c h1 h2 => by simp at *; omega) (fun a b => by simp; omega) xs
  have hn : (So.srt xs).Nodup := hp.nodup_iff.2 h
  refine ⟨?_, hp⟩
  have := hs.and hn
  exact this.imp fun {a b} ⟨h1, h2⟩ => by
    have h1 := of_decide_eq_true h1
    have h2 : a ≠ b := h2
    omega
theorem up_eq {xs ys : List Int} (hx : xs.Pairwise (· < ·)) (hy : ys.Pairwise (· < ·)) (hp : xs.Perm ys) : xs = ys :=
  List.Perm.eq_of_pairwise (le := fun a b : Int => a < b) (fun a b _ _ h1 h2 => by omega) hx hy hp
theorem put_srt {xs : List Int} {x : Int} (h : (xs ++ [x]).Nodup) : putV (So.srt xs) x = So.srt (xs ++ [x]) := by
  obtain ⟨n1, n2, n3⟩ := List.nodup_append.1 h
  obtain ⟨a1, a2⟩ := srt_up n1
  obtain ⟨b1, b2⟩ := srt_up h
  have hx : x ∉ So.srt xs := fun hm => n3 x (a2.mem_iff.1 hm) x (by simp) rfl
  obtain ⟨c1, c2⟩ := putV_spec a1 hx
  exact up_eq c1 b1 (c2.trans ((a2.append_right [x]).trans b2.symm))
theorem act_mb {ls : List Ln} {ix : List Int} (hix : ∀ x ∈ ix, 0 ≤ x ∧ x < ls.length) (l : Ln) : l ∈ act ls (mb ls.length ix) ls.length ↔ l ∈ ix.map (lnAt ls) := by
  simp only [act, List.mem_map, List.mem_filter, List.mem_range]
  constructor
  · rintro ⟨j, ⟨hj, hm⟩, rfl⟩
    rw [mb_get hj] at hm
    exact ⟨(j : Int), any_mem.1 hm, by simp [lnAt]⟩
  · rintro ⟨x, hx, rfl⟩
    obtain ⟨h0, h1⟩ := hix x hx
    refine ⟨x.toNat, ⟨by omega, ?_⟩, rfl⟩
    rw [mb_get (by omega), Int.toNat_of_nonneg h0]
    exact any_mem.2 hx
theorem part_reach {n : Int} {ls : List Ln} {ix : List Int} (hL : ∀ l ∈ ls, 0 ≤ l.a ∧ l.a < n ∧ 0 ≤ l.b ∧ l.b < n) (hix : ∀ x ∈ ix, 0 ≤ x ∧ x < ls.length) {a b : Int} (ha : 0 ≤ a ∧ a < n) (hb : 0 ≤ b ∧ b < n) :
    ((parts n ls (mb ls.length ix) ls.length).getD a.toNat 0 != (parts n ls (mb ls.length ix) ls.length).getD b.toNat 0) = !((reachV n ls ix a).any fun y => y == b) := by
  have hc := parts_conn (may := mb ls.length ix) hL ls.length (Nat.le_refl _) a b ha.1 ha.2 hb.1 hb.2
  have hr := (reachV_spec (ix := ix) hL hix ha).2 b
  have hm : Cn (act ls (mb ls.length ix) ls.length) a b ↔ Cn (ix.map (lnAt ls)) a b :=
    ⟨fun h => h.mono fun l hl => (act_mb hix l).1 hl, fun h => h.mono fun l hl => (act_mb hix l).2 hl⟩
  rw [hm, ← hr, ← any_mem] at hc
  cases h : ((reachV n ls ix a).any fun y => y == b) with
  | true =>
    have := hc.2 h
    rw [this]; simp
  | false =>
    have : ¬ (parts n ls (mb ls.length ix) ls.length).getD a.toNat 0 = (parts n ls (mb ls.length ix) ls.length).getD b.toNat 0 := fun e => by
      have := hc.1 e; rw [h] at this; cases this
    simpa using this
theorem spT_nodup {n : Int} {ls : List Ln} {ys : List Int} (h : ys.Nodup) : ∀ i, i ≤ ys.length → (spT n ls ys i).Nodup ∧ ∀ x ∈ spT n ls ys i, x ∈ ys.take i
  | 0, _ => ⟨List.nodup_nil, fun x h => by cases h⟩
  | i + 1, hi => by
    obtain ⟨h1, h2⟩ := spT_nodup h (n := n) (ls := ls) i (by omega)
    have htk : ys.take (i + 1) = ys.take i ++ [ys[i]] := List.take_succ_eq_append_getElem (by omega)
    have hg : ys.getD i 0 = ys[i] := by simp [List.getD, show i < ys.length by omega]
    have hn : (ys.take (i + 1)).Nodup := h.sublist (List.take_sublist _ _)
    rw [htk] at hn
    obtain ⟨_, _, n3⟩ := List.nodup_append.1 hn
    rw [spT, hg, htk]
    split
    · exact ⟨h1, fun x hx => List.mem_append_left _ (h2 x hx)⟩
    · refine ⟨List.nodup_append.2 ⟨h1, by simp, fun a ha b hb => n3 a (h2 a ha) b hb⟩, fun x hx => ?_⟩
      rcases List.mem_append.1 hx with hx | hx
      · exact List.mem_append_left _ (h2 x hx)
      · exact List.mem_append_right _ hx
end Go.Proofs.Ytglfcaioapdiaaa.Bk

namespace Go.Proofs.Ytglfcaioapdiaaa.Bk
open Go Go.RowKit Go.Proofs.Ytglfcaioapdiaaa.Aw
set_option linter.unusedSimpArgs false
set_option linter.unusedVariables false
attribute [local irreducible] AW SQ Step RO RC DE Thn InB
def lkAt (ls : List Ln) (rd : List Int) (j : Nat) : Int := ixG (linkP (rd.getD (j - 1) 0) (rd.getD j 0)) ls
def rtI (ls : List Ln) (rd : List Int) (i : Nat) : List Int := (List.range (i - 1)).map fun j => lkAt ls rd (j + 1)
theorem rtI_succ (ls : List Ln) (rd : List Int) {i : Nat} (h : 0 < i) : rtI ls rd (i + 1) = rtI ls rd i ++ [lkAt ls rd i] := by
  obtain ⟨j, rfl⟩ : ∃ j, i = j + 1 := ⟨i - 1, by omega⟩
  simp [rtI, List.range_succ]
end Go.Proofs.Ytglfcaioapdiaaa.Bk

-- Links of a route: the program's walk.
namespace Go.Proofs.Ytglfcaioapdiaaa.Bk
open Go Go.RowKit Go.Proofs.Ytglfcaioapdiaaa.Aw
set_option linter.unusedSimpArgs false
set_option linter.unusedVariables false
attribute [local irreducible] AW SQ Step RO RC DE Thn InB
end Go.Proofs.Ytglfcaioapdiaaa.Bk

namespace Go.Proofs.Ytglfcaioapdiaaa.Bk
open Go
set_option linter.unusedSimpArgs false
set_option linter.unusedVariables false
def Uq (ls : List Ln) : Prop := ∀ (i j : Nat) (hi : i < ls.length) (hj : j < ls.length) (x y : Int), linkP x y ls[i] = true → linkP x y ls[j] = true → i = j
theorem bkB_lex {n : Int} {ls : List Ln} (h : bkB n ls = true) : (∀ (i : Nat) (hi : i < ls.length), ls[i].a < ls[i].b) ∧ ∀ (d i : Nat) (hi : i + d + 1 < ls.length), lexB ls[i] ls[i + d + 1] = true := by
  simp only [bkB, Bool.and_eq_true, decide_eq_true_eq] at h
  have hg : ∀ i, i < ls.length → goodL n ls i = true := fun i hi => List.all_eq_true.1 h.2 i (List.mem_range.2 hi)
  have one : ∀ (i : Nat) (hi : i + 1 < ls.length), lexB ls[i] ls[i + 1] = true := fun i hi => by
    have := hg (i + 1) hi
    simp only [goodL, Bool.and_eq_true, Bool.or_eq_true, decide_eq_true_eq] at this
    have h2 := this.2
    simp only [Nat.add_sub_cancel, List.getD, List.getElem?_eq_getElem hi, List.getElem?_eq_getElem (show i < ls.length by omega), Option.getD_some] at h2
    rcases h2 with h2 | h2
    · omega
    · exact h2
  refine ⟨fun i hi => ?_, fun d => ?_⟩
  · have := hg i hi
    simp only [goodL, sOk, inB, Bool.and_eq_true, decide_eq_true_eq, List.getD, List.getElem?_eq_getElem hi, Option.getD_some] at this
    omega
  · induction d with
    | zero => exact fun i hi => one i hi
    | succ d ih =>
      intro i hi
      have h1 := ih i (by omega)
      have h2 := one (i + d + 1) (by omega)
      have e : i + d + 1 + 1 = i + (d + 1) + 1 := by omega
      simp only [e] at h2
      unfold lexB at *
      simp only [Bool.or_eq_true, Bool.and_eq_true, decide_eq_true_eq] at *
      omega
theorem Uq.of {n : Int} {ls : List Ln} (h : bkB n ls = true) : Uq ls := by
  obtain ⟨h1, h2⟩ := bkB_lex h
  have key : ∀ (i j : Nat) (hi : i < ls.length) (hj : j < ls.length) (x y : Int), i < j → linkP x y ls[i] = true → linkP x y ls[j] = true → False := by
    intro i j hi hj x y hij g1 g2
    have a1 := h1 i hi
    have a2 := h1 j hj
    have l := h2 (j - i - 1) i (by omega)
    have e : i + (j - i - 1) + 1 = j := by omega
    simp only [e] at l
    rw [linkP_iff] at g1 g2
    unfold lexB at l
    simp only [Bool.or_eq_true, Bool.and_eq_true, decide_eq_true_eq] at l
    omega
  intro i j hi hj x y g1 g2
  rcases Nat.lt_trichotomy i j with h | h | h
  · exact (key i j hi hj x y h g1 g2).elim
  · exact h
  · exact (key j i hj hi x y h g2 g1).elim
theorem ixG_uq {ls : List Ln} (hu : Uq ls) {i : Nat} (hi : i < ls.length) {x y : Int} (h : linkP x y ls[i] = true) : ixG (linkP x y) ls = i :=
  ixG_hit hi (fun z hz => by
    cases hc : linkP x y z with
    | false => rfl
    | true =>
      obtain ⟨j, hj, rfl⟩ := List.getElem_of_mem hz
      simp only [List.length_take] at hj
      rw [List.getElem_take] at hc
      have := hu j i (by omega) hi x y hc h
      omega) h
end Go.Proofs.Ytglfcaioapdiaaa.Bk

namespace Go.Proofs.Ytglfcaioapdiaaa.Bk
open Go
set_option linter.unusedSimpArgs false
set_option linter.unusedVariables false
inductive Pq (ls : List Ln) (may : List Bool) (s : Int) : List Int → List Int → Int → Prop
  | one : Pq ls may s [s] [] s
  | step {p q : List Int} {x y : Int} {i : Nat} (h : Pq ls may s p q x) (hi : i < ls.length) (hm : may.getD i false = true) (hl : linkP x y ls[i] = true) (hy : y ∉ p) : Pq ls may s (p ++ [y]) (q ++ [(i : Int)]) y
section
variable {ls : List Ln} {may : List Bool} {s : Int}
theorem Pq.len {p q : List Int} {t : Int} (h : Pq ls may s p q t) : p.length = q.length + 1 ∧ p.getLast? = some t := by
  induction h with
  | one => exact ⟨rfl, rfl⟩
  | step h hi hm hl hy ih => exact ⟨by simp [ih.1], by simp⟩
theorem rtI_snoc {p : List Int} {y x : Int} (h0 : p ≠ []) (hx : p.getLast? = some x) : rtI ls (p ++ [y]) (p ++ [y]).length = rtI ls p p.length ++ [ixG (linkP x y) ls] := by
  have hp : 0 < p.length := List.length_pos_iff.2 h0
  rw [List.length_append, List.length_singleton, rtI_succ _ _ hp]
  have e1 : rtI ls (p ++ [y]) p.length = rtI ls p p.length := by
    unfold rtI
    refine List.map_congr_left fun j hj => ?_
    have hj := List.mem_range.1 hj
    unfold lkAt
    have a1 : (p ++ [y]).getD (j + 1 - 1) 0 = p.getD (j + 1 - 1) 0 := by simp [List.getD, List.getElem?_append_left (show j < p.length by omega)]
    have a2 : (p ++ [y]).getD (j + 1) 0 = p.getD (j + 1) 0 := by simp [List.getD, List.getElem?_append_left (show j + 1 < p.length by omega)]
    rw [a1, a2]
  have e2 : lkAt ls (p ++ [y]) p.length = ixG (linkP x y) ls := by
    unfold lkAt
    have a1 : (p ++ [y]).getD (p.length - 1) 0 = x := by
      simp only [List.getD, List.getElem?_append_left (show p.length - 1 < p.length by omega)]
      rw [← List.getLast?_eq_getElem?, hx]; rfl
    have a2 : (p ++ [y]).getD p.length 0 = y := by simp [List.getD]
    rw [a1, a2]
  rw [e1, e2]
theorem Pq.of {counts : Bool} (hu : Uq ls) {p : List Int} {c t : Int} (h : Pt (Lk ls may counts) s p c t) : Pq ls may s p (rtI ls p p.length) t := by
  induction h with
  | one => exact .one
  | @step p c x y o h he hy ih =>
    obtain ⟨i, hi, hm, hor, _⟩ := he
    have hl : linkP x y ls[i] = true := linkP_iff.2 hor
    rw [rtI_snoc h.ne h.last, ixG_uq hu hi hl]
    exact .step ih hi hm hl hy
theorem Pq.idx {p q : List Int} {t : Int} (h : Pq ls may s p q t) : ∀ k ∈ q, ∃ i, ∃ hi : i < ls.length, k = (i : Int) ∧ may.getD i false = true ∧ ls[i].a ∈ p ∧ ls[i].b ∈ p := by
  induction h with
  | one => intro k hk; cases hk
  | @step p q x y i h hi hm hl hy ih =>
    intro k hk
    rcases List.mem_append.1 hk with hk | hk
    · obtain ⟨j, hj, e, g1, g2, g3⟩ := ih k hk
      exact ⟨j, hj, e, g1, List.mem_append_left _ g2, List.mem_append_left _ g3⟩
    · simp at hk
      have hx : x ∈ p := List.mem_of_getLast? h.len.2
      refine ⟨i, hi, hk, hm, ?_, ?_⟩ <;> (rcases linkP_iff.1 hl with ⟨a, b⟩ | ⟨a, b⟩ <;> simp [a, b, hx])
theorem Pq.new {p q : List Int} {x y : Int} {i : Nat} (h : Pq ls may s p q x) (hi : i < ls.length) (hl : linkP x y ls[i] = true) (hy : y ∉ p) : (i : Int) ∉ q := fun hm => by
  obtain ⟨j, hj, e, _, g2, g3⟩ := h.idx _ hm
  have : i = j := by omega
  subst this
  rcases linkP_iff.1 hl with ⟨a, b⟩ | ⟨a, b⟩
  · exact hy (b ▸ g3)
  · exact hy (a ▸ g2)
theorem Pq.nd {p q : List Int} {t : Int} (h : Pq ls may s p q t) : q.Nodup := by
  induction h with
  | one => exact List.nodup_nil
  | @step p q x y i h hi hm hl hy ih =>
    refine List.nodup_append.2 ⟨ih, by simp, fun a ha b hb => ?_⟩
    simp at hb; subst hb
    exact fun e => h.new hi hl hy (e ▸ ha)
variable {ix : List Int} (hmay : ∀ i, i < ls.length → (may.getD i false = true ↔ (i : Int) ∈ ix))
include hmay
theorem Pq.off {p q : List Int} {t k : Int} (h : Pq ls may s p q t) : k ∉ q → Cn ((ix.filter fun x => !(x == k)).map (lnAt ls)) s t := by
  induction h with
  | one => intro _; exact .refl
  | @step p q x y i h hi hm hl hy ih =>
    intro hk
    simp only [List.mem_append, List.mem_singleton, not_or] at hk
    refine .step (ih hk.1) ⟨ls[i], List.mem_map.2 ⟨(i : Int), ?_, by simp [lnAt, List.getD, hi]⟩, hl⟩
    refine List.mem_filter.2 ⟨(hmay i hi).1 hm, ?_⟩
    have : ((i : Int) == k) = false := by simpa using fun e => hk.2 e.symm
    rw [this]; rfl
theorem Pq.on {p q : List Int} {t : Int} {k : Nat} (hk : k < ls.length) (h : Pq ls may s p q t) : (k : Int) ∈ q → ∃ u v, linkP u v ls[k] = true ∧ Cn ((ix.filter fun x => !(x == (k : Int))).map (lnAt ls)) s u ∧ Cn ((ix.filter fun x => !(x == (k : Int))).map (lnAt ls)) v t := by
  induction h with
  | one => intro h; cases h
  | @step p q x y i h hi hm hl hy ih =>
    intro hkm
    by_cases hkq : (k : Int) ∈ q
    · obtain ⟨u, v, g1, g2, g3⟩ := ih hkq
      have hne : i ≠ k := fun e => h.new hi hl hy (e ▸ hkq)
      refine ⟨u, v, g1, g2, .step g3 ⟨ls[i], List.mem_map.2 ⟨(i : Int), List.mem_filter.2 ⟨(hmay i hi).1 hm, ?_⟩, by simp [lnAt, List.getD, hi]⟩, hl⟩⟩
      have : ((i : Int) == (k : Int)) = false := by simp; omega
      rw [this]; rfl
    · have : i = k := by
        rcases List.mem_append.1 hkm with h1 | h1
        · exact absurd h1 hkq
        · simp at h1; omega
      subst this
      exact ⟨x, y, hl, h.off hmay hkq, .refl⟩
end
theorem cn_count {n : Int} : ∀ (m : Nat) (p : List Ln), p.length = m → ∃ R : List Int, R.Nodup ∧ (∀ r ∈ R, 0 ≤ r ∧ r < n) ∧ n.toNat ≤ R.length + m ∧ ∀ r ∈ R, ∀ r' ∈ R, r ≠ r' → ¬ Cn p r r'
  | 0, p, hp => by
    have : p = [] := List.length_eq_zero_iff.1 hp
    subst this
    refine ⟨part0 n.toNat, List.Pairwise.map _ (fun a b (hab : a ≠ b) => by omega) List.nodup_range, fun r hr => ?_, by rw [part0_len]; omega, fun r _ r' _ hne h => hne (Cn_nil h)⟩
    obtain ⟨j, hj, rfl⟩ := List.mem_map.1 hr
    have := List.mem_range.1 hj
    omega
  | m + 1, p, hp => by
    obtain ⟨q, l, rfl⟩ : ∃ q l, p = q ++ [l] := by
      have : p ≠ [] := fun e => by subst e; simp at hp
      exact ⟨p.dropLast, p.getLast this, (List.dropLast_concat_getLast this).symm⟩
    obtain ⟨R, h1, h2, h3, h4⟩ := cn_count m q (by simpa using hp)
    by_cases hc : ∃ r ∈ R, Cn q r l.b
    · obtain ⟨r0, hr0, hcn⟩ := hc
      have hl := List.length_erase_of_mem hr0
      have hp0 : 0 < R.length := List.length_pos_of_mem hr0
      have no : ∀ r ∈ R.erase r0, ¬ Cn q r l.b := fun r hr hcr => by
        have := (h1.mem_erase_iff).1 hr
        exact h4 r this.2 r0 hr0 this.1 (hcr.trans hcn.symm)
      refine ⟨R.erase r0, h1.erase _, fun r hr => h2 r (List.mem_of_mem_erase hr), by omega, fun r hr r' hr' hne h => ?_⟩
      rcases (Cn_add q l r r').1 h with h | ⟨h, _⟩ | ⟨_, h⟩
      · exact h4 r (List.mem_of_mem_erase hr) r' (List.mem_of_mem_erase hr') hne h
      · exact no r hr h
      · exact no r' hr' h.symm
    · refine ⟨R, h1, h2, by omega, fun r hr r' hr' hne h => ?_⟩
      rcases (Cn_add q l r r').1 h with h | ⟨h, _⟩ | ⟨_, h⟩
      · exact h4 r hr r' hr' hne h
      · exact hc ⟨r, hr, h⟩
      · exact hc ⟨r', hr', h.symm⟩
theorem cn_all {n : Int} {p : List Ln} (h : ∀ x y, 0 ≤ x → x < n → 0 ≤ y → y < n → Cn p x y) : n.toNat ≤ p.length + 1 := by
  obtain ⟨R, h1, h2, h3, h4⟩ := cn_count (n := n) p.length p rfl
  have : R.length ≤ 1 := by
    match R, h1, h2, h4 with
    | [], _, _, _ => simp
    | [_], _, _, _ => simp
    | a :: b :: R, h1, h2, h4 =>
      have ha := h2 a (by simp)
      have hb := h2 b (by simp)
      have hne : a ≠ b := fun e => by subst e; simp at h1
      exact absurd (h a b ha.1 ha.2 hb.1 hb.2) (h4 a (by simp) b (by simp) hne)
  omega
structure Tr (n : Int) (ls : List Ln) (ix : List Int) : Prop where
  n1 : 1 ≤ n ∧ n ≤ 12
  ok : ∀ l ∈ ls, 0 ≤ l.a ∧ l.a < n ∧ 0 ≤ l.b ∧ l.b < n
  uq : Uq ls
  nd : ix.Nodup
  rg : ∀ x ∈ ix, 0 ≤ x ∧ x < ls.length
  len : (ix.length : Int) = n - 1
  all : ∀ x y, 0 ≤ x → x < n → 0 ≤ y → y < n → Cn (ix.map (lnAt ls)) x y
theorem incB_lt {xs : List Int} (h : incB xs = true) : ∀ (d i : Nat), i + d + 1 < xs.length → xs.getD i 0 < xs.getD (i + d + 1) 0 := by
  have one : ∀ i, i + 1 < xs.length → xs.getD i 0 < xs.getD (i + 1) 0 := fun i hi => by
    have := List.all_eq_true.1 h (i + 1) (List.mem_range.2 hi)
    simpa [incAt] using this
  intro d
  induction d with
  | zero => exact one
  | succ d ih =>
    intro i hi
    have h1 := ih i (by omega)
    have h2 := one (i + d + 1) (by omega)
    have e : i + d + 1 + 1 = i + (d + 1) + 1 := by omega
    rw [e] at h2
    omega
theorem incB_nd {xs : List Int} (h : incB xs = true) : xs.Nodup := by
  refine List.pairwise_iff_getElem.2 fun i j hi hj hij he => ?_
  have h1 := incB_lt h (j - i - 1) i (by omega)
  have e : i + (j - i - 1) + 1 = j := by omega
  rw [e] at h1
  simp only [List.getD, List.getElem?_eq_getElem hi, List.getElem?_eq_getElem hj, Option.getD_some, he] at h1
  omega
theorem Tr.of {n : Int} {ls : List Ln} {ix : List Int} (hN : 1 ≤ n ∧ n ≤ 12) (hL : ∀ l ∈ ls, 0 ≤ l.a ∧ l.a < n ∧ 0 ≤ l.b ∧ l.b < n) (hu : Uq ls) (h : isT n ls ix = true) : Tr n ls ix := by
  simp only [isT, Bool.and_eq_true, beq_iff_eq] at h
  obtain ⟨⟨⟨h1, h2⟩, h3⟩, h4⟩ := h
  have hg := inW_get h2
  obtain ⟨hG, hR⟩ := reachV_spec (frm := 0) hL hg (by omega)
  have hin : ∀ x, 0 ≤ x → x < n → Cn (ix.map (lnAt ls)) 0 x := fun x h0 h1 => by
    refine (hR x).1 (Classical.byContradiction fun hc => ?_)
    have := pigeon n.toNat (x :: reachV n ls ix 0) (List.nodup_cons.2 ⟨hc, hG.1⟩) fun y hy => by
      rcases List.mem_cons.1 hy with rfl | hy
      · omega
      · have := hG.2 y hy; omega
    simp only [List.length_cons] at this
    omega
  exact ⟨hN, hL, hu, incB_nd h1, hg, h3, fun x y hx hx1 hy hy1 => (hin x hx hx1).symm.trans (hin y hy hy1)⟩
theorem Tr.cut {n : Int} {ls : List Ln} {ix : List Int} (h : Tr n ls ix) {k : Nat} (hk : k < ls.length) (hm : (k : Int) ∈ ix) {u v : Int} (hl : linkP u v ls[k] = true) : ¬ Cn ((ix.filter fun x => !(x == (k : Int))).map (lnAt ls)) u v := fun hc => by
  have up : ∀ {x y : Int}, Cn (ix.map (lnAt ls)) x y → Cn ((ix.filter fun x => !(x == (k : Int))).map (lnAt ls)) x y := fun hh => by
    induction hh with
    | refl => exact .refl
    | @step y z _ e ih =>
      obtain ⟨l, hl', e⟩ := e
      obtain ⟨t, ht, rfl⟩ := List.mem_map.1 hl'
      by_cases he : t = (k : Int)
      · subst he
        have hat : lnAt ls (k : Int) = ls[k] := by simp [lnAt, List.getD, hk]
        rw [hat] at e
        refine ih.trans ?_
        rcases linkP_iff.1 e with ⟨a, b⟩ | ⟨a, b⟩ <;> rcases linkP_iff.1 hl with ⟨a', b'⟩ | ⟨a', b'⟩
        · rw [← a, ← b, a', b']; exact hc
        · rw [← a, ← b, a', b']; exact hc.symm
        · rw [← a, ← b, a', b']; exact hc.symm
        · rw [← a, ← b, a', b']; exact hc
      · refine ih.step ⟨_, List.mem_map.2 ⟨t, List.mem_filter.2 ⟨ht, ?_⟩, rfl⟩, e⟩
        have : (t == (k : Int)) = false := by simpa using he
        rw [this]; rfl
  have h1 := cn_all (n := n) fun x y hx hx1 hy hy1 => up (h.all x y hx hx1 hy hy1)
  have h2 : (ix.filter fun x => !(x == (k : Int))).length < ix.length := by
    refine Nat.lt_of_le_of_ne (List.length_filter_le _ _) fun e => ?_
    have := List.length_filter_eq_length_iff.1 e (k : Int) hm
    simp at this
  have := h.len
  have := h.n1
  rw [List.length_map] at h1
  omega
theorem Tr.way {n : Int} {ls : List Ln} {ix : List Int} (h : Tr n ls ix) {may : List Bool} (hmay : ∀ i, i < ls.length → (may.getD i false = true ↔ (i : Int) ∈ ix)) {x root : Int} {p q : List Int} (hp : Pq ls may x p q root) {k : Nat} (hk : k < ls.length) (hm : (k : Int) ∈ ix) :
    (k : Int) ∈ q ↔ ¬ Cn ((ix.filter fun x => !(x == (k : Int))).map (lnAt ls)) root x := by
  constructor
  · intro hq hc
    obtain ⟨u, v, g1, g2, g3⟩ := hp.on hmay hk hq
    exact h.cut hk hm g1 (g2.symm.trans (hc.symm.trans g3.symm))
  · intro hc
    exact Classical.byContradiction fun hq => hc (hp.off hmay hq).symm
end Go.Proofs.Ytglfcaioapdiaaa.Bk

-- Loads of a tree: what both functions count.
namespace Go.Proofs.Ytglfcaioapdiaaa.Bk
open Go Go.Proofs.Ytglfcaioapdiaaa.Aw
set_option linter.unusedSimpArgs false
set_option linter.unusedVariables false
def sumV (d : List Int) (P : Nat → Bool) : Nat → Int
  | 0 => 0
  | x + 1 => sumV d P x + (if P x then d.getD x 0 else 0)
theorem sumV_in {d : List Int} (hd : ∀ v ∈ d, 0 ≤ v ∧ v ≤ 1000000) (P : Nat → Bool) : ∀ x : Nat, 0 ≤ sumV d P x ∧ sumV d P x ≤ 1000000 * (x : Int)
  | 0 => by simp [sumV]
  | x + 1 => by
    have ih := sumV_in hd P x
    have : 0 ≤ d.getD x 0 ∧ d.getD x 0 ≤ 1000000 := by
      by_cases h : x < d.length
      · have := hd d[x] (List.getElem_mem h)
        simpa [List.getD, h] using this
      · simp [List.getD, List.getElem?_eq_none (show d.length ≤ x by omega)]
    simp only [sumV]
    split <;> omega
theorem sumV_congr {d : List Int} {P Q : Nat → Bool} : ∀ x : Nat, (∀ y, y < x → P y = Q y) → sumV d P x = sumV d Q x
  | 0, _ => rfl
  | x + 1, h => by simp only [sumV]; rw [sumV_congr x fun y hy => h y (by omega), h x (by omega)]
def rm (m : Nat) (f : Nat → Int) : List Int := (List.range m).map f
theorem rm_len (m : Nat) (f : Nat → Int) : (rm m f).length = m := by simp [rm]
theorem rm_get {m : Nat} {f : Nat → Int} {t : Nat} (h : t < m) : (rm m f)[t]? = some (f t) := by simp [rm, h]
theorem rm_set {m : Nat} {f : Nat → Int} {t : Nat} {v : Int} : (rm m f).set t v = rm m fun i => if i = t then v else f i := by
  apply List.ext_getElem?
  intro i
  simp only [rm, List.getElem?_set, List.getElem?_map, List.length_map, List.length_range]
  by_cases hi : i < m
  · rw [List.getElem?_range hi]
    by_cases h : t = i
    · subst h; simp [hi]
    · have h2 : ¬ i = t := fun e => h e.symm
      simp [h, h2]
  · rw [List.getElem?_eq_none (show (List.range m).length ≤ i by simp; omega)]
    by_cases h : t = i
    · subst h; simp [hi]
    · simp [h]
theorem rm_congr {m : Nat} {f g : Nat → Int} (h : ∀ i, i < m → f i = g i) : rm m f = rm m g := List.map_congr_left fun i hi => h i (List.mem_range.1 hi)
section
variable (n : Int) (ls : List Ln) (ix : List Int) (root : Int) (d : List Int)
def cutB (i : Int) (x : Nat) : Bool := !((reachV n ls (othI ix i) root).any fun y => y == (x : Int))
def loF (j i : Nat) : Int := if (i : Int) ∈ ix.take j then sumV d (cutB n ls ix root i) n.toNat else 0
def loG (j x i : Nat) : Int := if (i : Int) = ix.getD j 0 then sumV d (cutB n ls ix root (ix.getD j 0)) x else loF n ls ix root d j i
variable {n ls ix root d}
theorem loF_0 (i : Nat) : loF n ls ix root d 0 i = 0 := by simp [loF]
theorem loG_0 (hnd : ix.Nodup) {j : Nat} (hj : j < ix.length) (i : Nat) : loG n ls ix root d j 0 i = loF n ls ix root d j i := by
  unfold loG
  split
  · rename_i h
    have hD : ix.getD j 0 = ix[j] := by simp [List.getD, hj]
    unfold loF
    rw [if_neg]
    · rfl
    · intro hm
      rw [h, hD] at hm
      obtain ⟨q, hq, e⟩ := List.getElem_of_mem hm
      simp only [List.length_take] at hq
      rw [List.getElem_take] at e
      have := (List.getElem_inj (h₀ := by omega) (h₁ := hj) hnd).1 e
      omega
  · rfl
theorem loG_n {j : Nat} (hj : j < ix.length) (i : Nat) : loG n ls ix root d j n.toNat i = loF n ls ix root d (j + 1) i := by
  have hD : ix.getD j 0 = ix[j] := by simp [List.getD, hj]
  unfold loG loF
  rw [List.take_succ_eq_append_getElem hj, hD]
  by_cases h : (i : Int) = ix[j]
  · rw [if_pos h, if_pos (List.mem_append_right _ (by simp [h])), h]
  · rw [if_neg h]
    have : (i : Int) ∈ ix.take j ++ [ix[j]] ↔ (i : Int) ∈ ix.take j := ⟨fun hm => (List.mem_append.1 hm).resolve_right (fun hh => h (List.mem_singleton.1 hh)), List.mem_append_left _⟩
    simp only [this]
theorem loG_step (j x : Nat) (t : Nat) (ht : (t : Int) = ix.getD j 0) (i : Nat) : loG n ls ix root d j (x + 1) i = if i = t then loG n ls ix root d j x t + (if cutB n ls ix root (ix.getD j 0) x then d.getD x 0 else 0) else loG n ls ix root d j x i := by
  by_cases h : i = t
  · subst h
    rw [if_pos rfl]
    unfold loG
    rw [if_pos ht, if_pos ht]
    rfl
  · rw [if_neg h]
    unfold loG
    have : ¬ (i : Int) = ix.getD j 0 := fun e => h (by omega)
    rw [if_neg this, if_neg this]
theorem loG_in (hn : n ≤ 12) (hd : ∀ v ∈ d, 0 ≤ v ∧ v ≤ 1000000) (j x i : Nat) (hx : x ≤ 12) : 0 ≤ loG n ls ix root d j x i ∧ loG n ls ix root d j x i ≤ 12000000 := by
  unfold loG loF
  have h1 := sumV_in hd (cutB n ls ix root (ix.getD j 0)) x
  have h2 := sumV_in hd (cutB n ls ix root i) n.toNat
  split
  · omega
  · split <;> omega
end
def qnB (q : Nat → List Int) (i x : Nat) : Bool := (q x).any fun y => y == (i : Int)
def spF (d : List Int) (q : Nat → List Int) (x i : Nat) : Int := sumV d (qnB q i) x
theorem way_of {ls : List Ln} {may : List Bool} {ix : List Int} {s : Int} (hmay : ∀ i, i < ls.length → (may.getD i false = true ↔ (i : Int) ∈ ix)) (hrg : ∀ x ∈ ix, 0 ≤ x ∧ x < ls.length) {t : Int} (h : Cn (ix.map (lnAt ls)) s t) : ∃ p c, Pt (Lk ls may false) s p c t := by
  induction h with
  | refl => exact ⟨[s], 0, .one⟩
  | @step y z _ e ih =>
    obtain ⟨p, c, hp⟩ := ih
    obtain ⟨l, hl, e⟩ := e
    obtain ⟨u, hu, rfl⟩ := List.mem_map.1 hl
    have hur := hrg u hu
    have hi : u.toNat < ls.length := by omega
    have hat : lnAt ls u = ls[u.toNat] := by simp [lnAt, List.getD, hi]
    rw [hat] at e
    have hm : may.getD u.toNat false = true := (hmay _ hi).2 (by rw [show ((u.toNat : Nat) : Int) = u by omega]; exact hu)
    have hE : Lk ls may false y z 0 := ⟨u.toNat, hi, hm, linkP_iff.1 e, by simp [costW]⟩
    by_cases hz : z ∈ p
    · obtain ⟨q, _, c', _, hq, _⟩ := hp.pre (fun _ _ _ h => by obtain ⟨_, _, _, _, e⟩ := h; simp [costW] at e; omega) z hz
      exact ⟨q, c', hq⟩
    · exact ⟨p ++ [z], c + 0, .step hp hE hz⟩
def wyQ (n : Int) (ls : List Ln) (ix : List Int) (root : Int) (x : Nat) : List Int :=
  rtI ls (routeW n ls (mayT ls.length ix ix.length) false (x : Int) root).p (routeW n ls (mayT ls.length ix ix.length) false (x : Int) root).p.length
theorem Tr.may {n : Int} {ls : List Ln} {ix : List Int} (h : Tr n ls ix) : ∀ i, i < ls.length → ((mayT ls.length ix ix.length).getD i false = true ↔ (i : Int) ∈ ix) := fun i hi => by
  rw [mayT_get hi ix.length (Nat.le_refl _), List.take_length]
  constructor
  · rintro ⟨t, ht, e⟩
    have := h.rg t ht
    rw [show (i : Int) = t by omega]; exact ht
  · exact fun hm => ⟨_, hm, by simp⟩
theorem Tr.route {n : Int} {ls : List Ln} {ix : List Int} (h : Tr n ls ix) {root : Int} (hr : 0 ≤ root ∧ root < n) {x : Nat} (hx : (x : Int) < n) :
    (routeW n ls (mayT ls.length ix ix.length) false (x : Int) root).f = true ∧ Pq ls (mayT ls.length ix ix.length) (x : Int) (routeW n ls (mayT ls.length ix ix.length) false (x : Int) root).p (wyQ n ls ix root x) root := by
  have hE : ∀ x y o, Lk ls (mayT ls.length ix ix.length) false x y o → 0 ≤ o ∧ (0 ≤ x ∧ x < n) ∧ (0 ≤ y ∧ y < n) := fun x y o he => by
    obtain ⟨i, hi, _, hor, e⟩ := he
    have := h.ok _ (List.getElem_mem hi)
    refine ⟨by simp [costW] at e; omega, ?_⟩
    rcases hor with ⟨a, b⟩ | ⟨a, b⟩ <;> omega
  obtain ⟨r1, r2⟩ := route_spec (E := Lk ls (mayT ls.length ix ix.length) false) (s := (x : Int)) (n := n) hE (by omega) rfl hr
  obtain ⟨p, c, hp⟩ := way_of h.may h.rg (h.all (x : Int) root (by omega) hx hr.1 hr.2)
  have hf := (r2 p c hp).1
  exact ⟨hf, Pq.of h.uq (r1 hf)⟩
theorem Tr.loads {n : Int} {ls : List Ln} {ix : List Int} (h : Tr n ls ix) {root : Int} (hr : 0 ≤ root ∧ root < n) (d : List Int) {i : Nat} (hi : i < ls.length) : spF d (wyQ n ls ix root) n.toNat i = loF n ls ix root d ix.length i := by
  unfold spF loF
  rw [List.take_length]
  by_cases hm : (i : Int) ∈ ix
  · rw [if_pos hm]
    refine sumV_congr _ fun x hx => ?_
    have hxn : (x : Int) < n := by omega
    have hw := (h.route hr hxn).2
    have h1 := h.way h.may hw hi hm
    have hoix : ∀ y ∈ othI ix i, 0 ≤ y ∧ y < ls.length := fun y hy => h.rg y (List.mem_filter.1 hy).1
    have h2 := (reachV_spec (frm := root) h.ok hoix hr).2 (x : Int)
    rw [Bool.eq_iff_iff]
    simp only [qnB, cutB, List.any_eq_true, beq_iff_eq, Bool.not_eq_true', List.any_eq_false, exists_eq_right]
    rw [h1]
    have e : (ix.filter fun x => !(x == (i : Int))) = othI ix i := rfl
    rw [e, ← h2]
    constructor
    · intro hn y hy e; exact hn (e ▸ hy)
    · intro hn hy; exact hn _ hy rfl
  · rw [if_neg hm]
    have : ∀ x : Nat, x ≤ n.toNat → sumV d (qnB (wyQ n ls ix root) i) x = 0 := fun x => by
      induction x with
      | zero => intro _; rfl
      | succ x ih =>
        intro hx
        have hw := (h.route hr (x := x) (by omega)).2
        have hq : qnB (wyQ n ls ix root) i x = false := by
          simp only [qnB, List.any_eq_false, beq_iff_eq]
          intro y hy e
          subst e
          obtain ⟨j, hj, e, hmj, _⟩ := hw.idx _ hy
          have : i = j := by omega
          subst this
          exact hm ((h.may i hi).1 hmj)
        simp only [sumV, hq, ih (by omega)]
        simp
    exact this _ (Nat.le_refl _)
end Go.Proofs.Ytglfcaioapdiaaa.Bk

namespace Go.Proofs.Ytglfcaioapdiaaa.Bk
open Go
set_option linter.unusedSimpArgs false
set_option linter.unusedVariables false
set_option linter.unusedSectionVars false
section
variable {n : Int} {ls : List Ln} {ys : List Int} (hN : 1 ≤ n ∧ n ≤ 12) (hL : ∀ l ∈ ls, 0 ≤ l.a ∧ l.a < n ∧ 0 ≤ l.b ∧ l.b < n) (hys : ∀ x ∈ ys, 0 ≤ x ∧ x < ls.length)
include hN hL hys
theorem spT_rg {i : Nat} (hi : i ≤ ys.length) : ∀ x ∈ spT n ls ys i, 0 ≤ x ∧ x < ls.length := fun x hx => hys x (spT_mem hi x hx)
theorem lnAt_mem {x : Int} (h : 0 ≤ x ∧ x < ls.length) : lnAt ls x ∈ ls := by
  have : x.toNat < ls.length := by omega
  simp [lnAt, List.getD, this]
theorem spT_step {i : Nat} (hi : i < ys.length) : (Cn ((spT n ls ys i).map (lnAt ls)) (lnAt ls (ys.getD i 0)).a (lnAt ls (ys.getD i 0)).b ∧ spT n ls ys (i + 1) = spT n ls ys i) ∨
    (¬ Cn ((spT n ls ys i).map (lnAt ls)) (lnAt ls (ys.getD i 0)).a (lnAt ls (ys.getD i 0)).b ∧ spT n ls ys (i + 1) = spT n ls ys i ++ [ys.getD i 0]) := by
  have hy := hys _ (getD_mem hi)
  obtain ⟨a0, a1, d0, d1⟩ := hL _ (lnAt_mem hN hL hys hy)
  have hr := (reachV_spec (ix := spT n ls ys i) hL (spT_rg hN hL hys (by omega)) ⟨a0, a1⟩).2 (lnAt ls (ys.getD i 0)).b
  rw [← hr, ← any_mem]
  by_cases c : ((reachV n ls (spT n ls ys i) (lnAt ls (ys.getD i 0)).a).any fun y => y == (lnAt ls (ys.getD i 0)).b) = true
  · exact .inl ⟨c, by rw [spT, if_pos c]⟩
  · exact .inr ⟨c, by rw [spT, if_neg c]⟩
theorem spT_parts : ∀ i, i ≤ ys.length → ∃ R : List Int, R.length + (spT n ls ys i).length = n.toNat ∧ ∀ v, 0 ≤ v → v < n → ∃ r ∈ R, Cn ((spT n ls ys i).map (lnAt ls)) v r
  | 0, _ => ⟨part0 n.toNat, by rw [part0_len]; rfl, fun v h0 h1 => ⟨v, part0_mem.2 ⟨h0, by omega⟩, .refl⟩⟩
  | i + 1, hi => by
    obtain ⟨R, h1, h2⟩ := spT_parts i (by omega)
    rcases spT_step hN hL hys (i := i) hi with ⟨_, e⟩ | ⟨hc, e⟩
    · rw [e]; exact ⟨R, h1, h2⟩
    · rw [e]
      have hy := hys _ (getD_mem hi)
      obtain ⟨a0, a1, d0, d1⟩ := hL _ (lnAt_mem hN hL hys hy)
      obtain ⟨ra, ha, ca⟩ := h2 _ a0 a1
      obtain ⟨rb, hb, cb⟩ := h2 _ d0 d1
      have hne : ra ≠ rb := fun e => by subst e; exact hc (ca.trans cb.symm)
      have up : ∀ {x y}, Cn ((spT n ls ys i).map (lnAt ls)) x y → Cn ((spT n ls ys i ++ [ys.getD i 0]).map (lnAt ls)) x y := fun h => h.mono fun l hl => by rw [List.map_append]; exact List.mem_append_left _ hl
      have hab : Cn ((spT n ls ys i ++ [ys.getD i 0]).map (lnAt ls)) (lnAt ls (ys.getD i 0)).a (lnAt ls (ys.getD i 0)).b :=
        .step .refl ⟨_, by rw [List.map_append]; exact List.mem_append_right _ (by simp), linkP_iff.2 (.inl ⟨rfl, rfl⟩)⟩
      refine ⟨R.erase ra, ?_, fun v h0 h1' => ?_⟩
      · have := List.length_erase_of_mem ha
        have := List.length_pos_of_mem ha
        rw [List.length_append, List.length_singleton]; omega
      · obtain ⟨r, hr, cr⟩ := h2 v h0 h1'
        by_cases e : r = ra
        · subst e
          exact ⟨rb, (List.mem_erase_of_ne hne.symm).2 hb, ((up cr).trans (up ca.symm)).trans (hab.trans (up cb))⟩
        · exact ⟨r, (List.mem_erase_of_ne e).2 hr, up cr⟩
theorem spT_joined : ∀ i, i ≤ ys.length → ∀ j, j < i → Cn ((spT n ls ys i).map (lnAt ls)) (lnAt ls (ys.getD j 0)).a (lnAt ls (ys.getD j 0)).b
  | 0, _, j, hj => by omega
  | i + 1, hi, j, hj => by
    rcases spT_step hN hL hys (i := i) hi with ⟨hc, e⟩ | ⟨hc, e⟩
    · rw [e]
      by_cases h : j = i
      · subst h; exact hc
      · exact spT_joined i (by omega) j (by omega)
    · rw [e]
      by_cases h : j = i
      · subst h
        exact .step .refl ⟨_, by rw [List.map_append]; exact List.mem_append_right _ (by simp), linkP_iff.2 (.inl ⟨rfl, rfl⟩)⟩
      · exact (spT_joined i (by omega) j (by omega)).mono fun l hl => by rw [List.map_append]; exact List.mem_append_left _ hl
theorem spT_span {i : Nat} (hi : i ≤ ys.length) (hl : ((spT n ls ys i).length : Int) = n - 1) : ∀ x y, 0 ≤ x → x < n → 0 ≤ y → y < n → Cn ((spT n ls ys i).map (lnAt ls)) x y := by
  obtain ⟨R, h1, h2⟩ := spT_parts hN hL hys i hi
  obtain ⟨r, rfl⟩ : ∃ r, R = [r] := List.length_eq_one_iff.1 (by omega)
  intro x y x0 x1 y0 y1
  obtain ⟨a, ha, ca⟩ := h2 x x0 x1
  obtain ⟨b, hb, cb⟩ := h2 y y0 y1
  rw [List.mem_singleton] at ha hb
  subst ha hb
  exact ca.trans cb.symm
end
theorem ordK_rg (ls : List Ln) : ∀ x ∈ ordK ls, 0 ≤ x ∧ x < ls.length := fun x hx => part0_mem.1 ((ordK_perm ls).mem_iff.1 hx)
theorem ordK_nd (ls : List Ln) : (ordK ls).Nodup := (ordK_perm ls).nodup_iff.2 ((part0_up _).imp fun {a b} h e => by omega)
theorem treK_nd (n : Int) (ls : List Ln) : (treK n ls).Nodup := (spT_nodup (n := n) (ls := ls) (ordK_nd ls) ls.length (by rw [ordK_len]; exact Nat.le_refl _)).1
theorem treK_rg (n : Int) (ls : List Ln) : ∀ x ∈ treK n ls, 0 ≤ x ∧ x < ls.length := fun x hx => ordK_rg ls x (spT_mem (by rw [ordK_len]; exact Nat.le_refl _) x hx)
theorem incB_of {xs : List Int} (h : xs.Pairwise (· < ·)) : incB xs = true := by
  unfold incB
  rw [List.all_eq_true]
  intro i hi
  have hi := List.mem_range.1 hi
  unfold incAt
  by_cases h0 : i = 0
  · simp [h0]
  · have := List.pairwise_iff_getElem.1 h (i - 1) i (by omega) hi (by omega)
    simp [List.getD, show i - 1 < xs.length by omega, hi]
    exact .inr this
theorem cn_perm {ls : List Ln} {xs ys : List Int} (h : ∀ x ∈ xs, x ∈ ys) {a b : Int} (hc : Cn (xs.map (lnAt ls)) a b) : Cn (ys.map (lnAt ls)) a b := hc.mono fun l hl => by
  obtain ⟨x, hx, rfl⟩ := List.mem_map.1 hl
  exact List.mem_map.2 ⟨x, h x hx, rfl⟩
section
variable {n : Int} {ls : List Ln} (hb : bkB n ls = true) (hN : 1 ≤ n ∧ n ≤ 12) (hL : ∀ l ∈ ls, 0 ≤ l.a ∧ l.a < n ∧ 0 ≤ l.b ∧ l.b < n) (hl : ((treK n ls).length : Int) = n - 1)
include hb hN hL hl
theorem treK_all : ∀ x y, 0 ≤ x → x < n → 0 ≤ y → y < n → Cn ((treK n ls).map (lnAt ls)) x y := spT_span hN hL (ordK_rg ls) (by rw [ordK_len]; exact Nat.le_refl _) hl
theorem srt_tree : isT n ls (So.srt (treK n ls)) = true := by
  obtain ⟨h1, h2⟩ := srt_up (treK_nd n ls)
  have hrg : ∀ x ∈ So.srt (treK n ls), 0 ≤ x ∧ x < ls.length := fun x hx => treK_rg n ls x (h2.mem_iff.1 hx)
  obtain ⟨hG, hR⟩ := reachV_spec (frm := 0) hL hrg (by omega)
  have hle := hG.le (by omega)
  have hge : n.toNat ≤ (reachV n ls (So.srt (treK n ls)) 0).length := by
    have := nodup_le (part0 n.toNat) (reachV n ls (So.srt (treK n ls)) 0) ((part0_up _).imp fun {a b} h e => by omega) fun x hx => by
      obtain ⟨x0, x1⟩ := part0_mem.1 hx
      exact (hR x).2 (cn_perm (fun y hy => h2.mem_iff.2 hy) (treK_all hb hN hL hl 0 x (by omega) (by omega) x0 (by omega)))
    rwa [part0_len] at this
  simp only [isT, Bool.and_eq_true, beq_iff_eq]
  refine ⟨⟨⟨incB_of h1, ?_⟩, by rw [So.srt_len]; exact hl⟩, by omega⟩
  unfold inW
  rw [Bool.not_eq_true', List.any_eq_false]
  intro x hx
  have := hrg x hx
  simp [inB]; omega
theorem srt_Tr : Tr n ls (So.srt (treK n ls)) := Tr.of hN hL (Uq.of hb) (srt_tree hb hN hL hl)
theorem crit_in {i : Nat} (hi : i < ls.length) (hc : crB n ls i = true) : ((So.srt (treK n ls)).any fun y => y == (i : Int)) = true := by
  obtain ⟨_, h2⟩ := srt_up (treK_nd n ls)
  rw [any_mem, h2.mem_iff]
  refine Classical.byContradiction fun hn => ?_
  obtain ⟨a0, a1, d0, d1⟩ := hL _ (List.getElem_mem hi)
  rw [← crB_eq hL hi, Bool.not_eq_true'] at hc
  have hr := (reachV_spec (ix := selI (fun j => ((j : Int) != (i : Int))) ls.length) hL (fun x hx => selI_in hx) ⟨a0, a1⟩).2 ls[i].b
  have hcn : Cn ((selI (fun j => ((j : Int) != (i : Int))) ls.length).map (lnAt ls)) ls[i].a ls[i].b := cn_perm (fun x hx => by
    obtain ⟨x0, x1⟩ := treK_rg n ls x hx
    refine List.mem_map.2 ⟨x.toNat, List.mem_filter.2 ⟨List.mem_range.2 (by omega), ?_⟩, by omega⟩
    have : (x.toNat : Int) ≠ (i : Int) := fun e => hn (by rw [Int.toNat_of_nonneg x0] at e; exact e ▸ hx)
    simpa using this) (treK_all hb hN hL hl _ _ a0 a1 d0 d1)
  have := any_mem.2 (hr.2 hcn)
  rw [this] at hc; cases hc
theorem exch {o i : Int} (ho : o ∈ treK n ls) (hi : 0 ≤ i ∧ i < ls.length) {other : List Int} (hot : ∀ x, x ∈ other ↔ (0 ≤ x ∧ x < ls.length ∧ x ≠ o ∧ (x ∈ treK n ls ∨ x = i))) (hT : isT n ls other = true) : ¬ kO ls i < kO ls o := fun hlt => by
  have hT2 := Tr.of hN hL (Uq.of hb) hT
  have hlen := hT2.len
  have hsub : ((treK n ls).erase o).length = (treK n ls).length - 1 := List.length_erase_of_mem ho
  have hpos := List.length_pos_of_mem ho
  have her : ∀ x, x ∈ (treK n ls).erase o ↔ x ≠ o ∧ x ∈ treK n ls := fun x => (treK_nd n ls).mem_erase_iff
  by_cases hin : i ∈ treK n ls ∨ i = o
  · -- no other link comes in
    have := nodup_le other ((treK n ls).erase o) hT2.nd fun x hx => by
      obtain ⟨_, _, h3, h4⟩ := (hot x).1 hx
      rw [her]
      refine ⟨h3, ?_⟩
      rcases h4 with h4 | rfl
      · exact h4
      · rcases hin with h | h
        · exact h
        · exact absurd h h3
    omega
  · have hni : i ∉ treK n ls := fun h => hin (.inl h)
    have hio : i ≠ o := fun h => hin (.inr h)
    have hP := ordK_perm ls
    have hol := ordK_len ls
    have hs : (ordK ls).Pairwise (Lx (kO ls)) := by
      by_cases h1 : 1 ≤ ls.length
      · exact (stF_sorted (K := kO ls) (part0_up _) (by rw [part0_len]; exact h1)).2
      · omega
    obtain ⟨p, hp, ep⟩ := mem_getD (hP.mem_iff.2 (part0_mem.2 hi))
    have hj := spT_joined hN hL (ordK_rg ls) (p + 1) (by omega) p (by omega)
    rw [ep] at hj
    -- what was there when it was passed by is still there
    have hkeep : ∀ x ∈ spT n ls (ordK ls) (p + 1), x ∈ (treK n ls).erase o := fun x hx => by
      have hmono : ∀ q, p + 1 ≤ q → ∀ x ∈ spT n ls (ordK ls) (p + 1), x ∈ spT n ls (ordK ls) q := by
        intro q
        induction q with
        | zero => intro h; omega
        | succ q ih =>
          intro h x hx
          by_cases e : p + 1 = q + 1
          · rw [← e]; exact hx
          · have := ih (by omega) x hx
            rw [spT]; split
            · exact this
            · exact List.mem_append_left _ this
      have hxT : x ∈ treK n ls := hmono ls.length (by omega) x hx
      rw [her]
      refine ⟨fun e => ?_, hxT⟩
      subst e
      have hxt := (spT_nodup (n := n) (ls := ls) (ordK_nd ls) (p + 1) (by omega)).2 x hx
      obtain ⟨j, hj, e⟩ := mem_getD hxt
      rw [List.length_take] at hj
      have e2 : ((ordK ls).take (p + 1)).getD j 0 = (ordK ls).getD j 0 := by simp only [List.getD]; rw [List.getElem?_take_of_lt (by omega)]
      rw [e2] at e
      by_cases hjp : j = p
      · subst hjp; exact hio (by rw [← ep, e])
      · have := pw_at hs (show j < p by omega) (by omega)
        rw [e, ep] at this
        unfold Lx at this; omega
    have hji := cn_perm hkeep hj
    have up : ∀ {x y : Int}, Cn (other.map (lnAt ls)) x y → Cn (((treK n ls).erase o).map (lnAt ls)) x y := fun hh => by
      induction hh with
      | refl => exact .refl
      | @step y z _ e ih =>
        obtain ⟨l, hl', e⟩ := e
        obtain ⟨t, ht, rfl⟩ := List.mem_map.1 hl'
        obtain ⟨_, _, h3, h4⟩ := (hot t).1 ht
        rcases h4 with h4 | rfl
        · exact ih.step ⟨_, List.mem_map.2 ⟨t, (her t).2 ⟨h3, h4⟩, rfl⟩, e⟩
        · refine ih.trans ?_
          rcases linkP_iff.1 e with ⟨a, b⟩ | ⟨a, b⟩
          · rw [← a, ← b]; exact hji
          · rw [← a, ← b]; exact hji.symm
    have h1 := cn_all (n := n) fun x y hx hx1 hy hy1 => up (hT2.all x y hx hx1 hy hy1)
    rw [List.length_map] at h1
    omega
end
/-! the loads at the root -/
def sumW (d : List Int) (w : Nat → Nat) : Nat → Int
  | 0 => 0
  | x + 1 => sumW d w x + d.getD x 0 * (w x : Int)
theorem sumV_W (d : List Int) (P : Nat → Bool) : ∀ x, sumV d P x = sumW d (fun y => if P y = true then 1 else 0) x
  | 0 => rfl
  | x + 1 => by
    rw [sumV, sumW, sumV_W d P x]
    cases P x <;> simp
theorem sumW_add (d : List Int) (w w' : Nat → Nat) : ∀ x, sumW d (fun y => w y + w' y) x = sumW d w x + sumW d w' x
  | 0 => rfl
  | x + 1 => by
    rw [sumW, sumW, sumW, sumW_add d w w' x]
    push_cast
    rw [Int.mul_add]; omega
theorem sumW_congr {d : List Int} {w w' : Nat → Nat} : ∀ x, (∀ y, y < x → w y = w' y) → sumW d w x = sumW d w' x
  | 0, _ => rfl
  | x + 1, h => by rw [sumW, sumW, sumW_congr x fun y hy => h y (by omega), h x (by omega)]
theorem sumW_0 (d : List Int) : ∀ x, sumW d (fun _ => 0) x = 0
  | 0 => rfl
  | x + 1 => by rw [sumW, sumW_0 d x]; simp
def cnt (P : Nat → Bool) : Nat → Nat
  | 0 => 0
  | i + 1 => cnt P i + if P i = true then 1 else 0
theorem cnt_none {P : Nat → Bool} : ∀ i, (∀ j, j < i → P j = false) → cnt P i = 0
  | 0, _ => rfl
  | i + 1, h => by rw [cnt, cnt_none i fun j hj => h j (by omega), h i (by omega)]; rfl
theorem cnt_one {P : Nat → Bool} {j0 : Nat} (h0 : P j0 = true) (hu : ∀ j, P j = true → j = j0) : ∀ i, cnt P i = if j0 < i then 1 else 0
  | 0 => rfl
  | i + 1 => by
    rw [cnt, cnt_one h0 hu i]
    cases hp : P i with
    | true => have := hu i hp; subst this; simp
    | false =>
      have : i ≠ j0 := fun e => by subst e; rw [hp] at h0; cases h0
      by_cases c : j0 < i
      · rw [if_pos c, if_pos (show j0 < i + 1 by omega)]; rfl
      · rw [if_neg c, if_neg (show ¬ j0 < i + 1 by omega)]; rfl
def adjB (root : Int) (l : Ln) : Bool := l.a == root || l.b == root
def sumR (ls : List Ln) (root : Int) (d ld : List Int) : Nat → Int
  | 0 => d.getD root.toNat 0
  | i + 1 => if adjB root (ls.getD i lnz) = true then sumR ls root d ld i + ld.getD i 0 else sumR ls root d ld i
theorem pq_adj {ls : List Ln} {may : List Bool} {s root : Int} {p q : List Int} (hp : Pq ls may s p q root) : (s = root → q = []) ∧ (s ≠ root → ∃ i0, ∃ h0 : i0 < ls.length, (i0 : Int) ∈ q ∧ adjB root ls[i0] = true ∧ ∀ (j : Nat) (hj : j < ls.length), (j : Int) ∈ q → adjB root ls[j] = true → j = i0) := by
  cases hp with
  | one => exact ⟨fun _ => rfl, fun h => absurd rfl h⟩
  | @step p q x _ i h hi hm hl hy =>
    have hsp : s ∈ p := by
      clear hl hy hm
      induction h with
      | one => simp
      | step _ _ _ _ _ ih => exact List.mem_append_left _ ih
    refine ⟨fun e => absurd (e ▸ hsp) hy, fun _ => ⟨i, hi, by simp, ?_, fun j hj hjq hja => ?_⟩⟩
    · rcases linkP_iff.1 hl with ⟨a, b⟩ | ⟨a, b⟩ <;> simp [adjB, a, b]
    · rcases List.mem_append.1 hjq with hjq | hjq
      · obtain ⟨k, hk, e, _, g2, g3⟩ := h.idx _ hjq
        have : j = k := by omega
        subst this
        simp only [adjB, Bool.or_eq_true, beq_iff_eq] at hja
        rcases hja with h | h
        · exact absurd (h ▸ g2) hy
        · exact absurd (h ▸ g3) hy
      · simp at hjq; omega
theorem loads_sum {n : Int} {ls : List Ln} {ix : List Int} (h : Tr n ls ix) {root : Int} (hr : 0 ≤ root ∧ root < n) (d : List Int) (hd : (d.length : Int) = n) :
    sumR ls root d (rm ls.length (loF n ls ix root d ix.length)) ls.length = sumW d (fun _ => 1) d.length := by
  have key : ∀ i, i ≤ ls.length → sumR ls root d (rm ls.length (loF n ls ix root d ix.length)) i = d.getD root.toNat 0 + sumW d (fun x => cnt (fun j => adjB root (ls.getD j lnz) && qnB (wyQ n ls ix root) j x) i) n.toNat := by
    intro i
    induction i with
    | zero =>
      intro _
      rw [sumR]
      have : sumW d (fun x => cnt (fun j => adjB root (ls.getD j lnz) && qnB (wyQ n ls ix root) j x) 0) n.toNat = 0 := sumW_0 d _
      omega
    | succ i ih =>
      intro hi
      have e : sumW d (fun x => cnt (fun j => adjB root (ls.getD j lnz) && qnB (wyQ n ls ix root) j x) (i + 1)) n.toNat = sumW d (fun x => cnt (fun j => adjB root (ls.getD j lnz) && qnB (wyQ n ls ix root) j x) i) n.toNat + sumW d (fun x => if (adjB root (ls.getD i lnz) && qnB (wyQ n ls ix root) i x) = true then 1 else 0) n.toNat := sumW_add d _ _ _
      rw [sumR, ih (by omega), e]
      cases ha : adjB root (ls.getD i lnz) with
      | true =>
        have e2 : (rm ls.length (loF n ls ix root d ix.length)).getD i 0 = loF n ls ix root d ix.length i := by
          simp only [List.getD, rm_get (show i < ls.length by omega), Option.getD_some]
        rw [if_pos rfl, e2, ← h.loads hr d (by omega), spF, sumV_W]
        simp only [Bool.true_and]
        omega
      | false =>
        rw [if_neg (by simp)]
        simp only [Bool.false_and, Bool.false_eq_true, if_false]
        rw [sumW_0]; omega
  rw [key ls.length (Nat.le_refl _)]
  have hc : ∀ x : Nat, x < n.toNat → cnt (fun j => adjB root (ls.getD j lnz) && qnB (wyQ n ls ix root) j x) ls.length = if (x : Int) = root then 0 else 1 := fun x hx => by
    have hw := (h.route hr (x := x) (by omega)).2
    obtain ⟨g1, g2⟩ := pq_adj hw
    by_cases e : (x : Int) = root
    · rw [if_pos e]
      refine cnt_none _ fun j hj => ?_
      have : qnB (wyQ n ls ix root) j x = false := by unfold qnB; rw [g1 e]; rfl
      rw [this, Bool.and_false]
    · rw [if_neg e]
      obtain ⟨i0, h0, m0, a0, u0⟩ := g2 e
      have h1 := cnt_one (P := fun j => adjB root (ls.getD j lnz) && qnB (wyQ n ls ix root) j x) (j0 := i0) (by
        rw [Bool.and_eq_true]
        refine ⟨?_, any_mem.2 m0⟩
        simpa [List.getD, h0] using a0) (fun j hj => by
        rw [Bool.and_eq_true] at hj
        have hm := any_mem.1 hj.2
        obtain ⟨k, hk, ek, _⟩ := hw.idx _ hm
        have : j = k := by omega
        subst this
        refine u0 j hk hm ?_
        simpa [List.getD, hk] using hj.1) ls.length
      rw [h1, if_pos h0]
  rw [sumW_congr n.toNat hc]
  have hsum : ∀ m : Nat, sumW d (fun x => if (x : Int) = root then 0 else 1) m + (if root < (m : Int) then d.getD root.toNat 0 else 0) = sumW d (fun _ => 1) m := by
    intro m
    induction m with
    | zero => rw [if_neg (by omega)]; rfl
    | succ m ih =>
      rw [sumW, sumW]
      by_cases e : (m : Int) = root
      · rw [if_pos e]
        rw [if_neg (by omega)] at ih
        rw [if_pos (by omega), show root.toNat = m by omega]
        simp only [Int.natCast_zero, Int.mul_zero]
        omega
      · rw [if_neg e]
        by_cases c : root < (m : Int)
        · rw [if_pos c] at ih; rw [if_pos (by omega)]; omega
        · rw [if_neg c] at ih; rw [if_neg (by omega)]; omega
  have := hsum n.toNat
  rw [if_pos (by omega)] at this
  rw [show d.length = n.toNat by omega]
  omega
end Go.Proofs.Ytglfcaioapdiaaa.Bk

namespace Go.Proofs.Ytglfcaioapdiaaa.Sr
open Go Go.RowKit Go.Proofs.Ytglfcaioapdiaaa.Aw
set_option linter.unusedSimpArgs false
set_option linter.unusedVariables false
attribute [local irreducible] AW SQ Step RO RC DE Thn InB
set_option maxHeartbeats 4000000 in
theorem one_rc (b : Nat) (s : Sr) (n : Int) (h : s.ok 900000) (hn : n ≤ 1000000) (j : Nat) : RC Try.prog 86 [.ptr b 0 0, .v (.int .i64 n)] [(b, ⟨133, 3, false, [srR s]⟩)] j (.v (.bool ((pk s n).1 == 0))) [(b, some ⟨133, 3, false, [srR (pk s n).2]⟩)] j := by
  refine RC.ofc [b] 0 [.ptr 0 0 0, .v (.int .i64 n)] [(0, ⟨133, 3, false, [srR s]⟩)] (.v (.bool ((pk s n).1 == 0))) [(0, some ⟨133, 3, false, [srR (pk s n).2]⟩)] Try.func86 Try.ntmps86 rfl (goFn_of Try.func86 rfl (by kernel_rfl)) rfl rfl rfl rfl rfl rfl rfl rfl (by simp_all) rfl ?_
  have hp := pick_rc 0 s n h hn
  ((repeat' (first
    | (show SQ _ _ _ _ _ _ _ _; first | apply sq_nil | (apply q_move; exact rfl; exact rfl) | (apply q_assign; exact rfl; exact rfl) | (apply q_eql; iterate 3 exact rfl))
    | (show SQ _ _ _ _ _ _ _ _; (first | (apply q_callC; (iterate 3 exact rfl); exact hp _; (focus ((repeat (first | exact trivial | refine ⟨by first | exact rfl | assumption, ?_⟩)); done)); skip)); (try simp only [put, rowsOf, plR, selE, ovr, setH, del, cellsA, splice, isV, spq, if_true, if_false]))
    | (show AW _ _ _ _ _ _ _ _; first | refine aw_region ?_ | (refine aw_seqk ?_; intro K hK) | refine aw_ret ?_)
    | refine thn_n ?_
    | (refine hK _ _ _ ?_; clear hK K))); all_goals (repeat (clear hK K)))
  exact finc (fun i => i) (.r1 _ _ (.tmp _ _ rfl)) rfl (fun _ _ => rfl) ⟨rfl, trivial⟩ rfl
def am (ws : List Int) (s : Sr) : Int × Sr := (ws.getD (pk s ws.length).1.toNat 0, (pk s ws.length).2)
theorem am_ok {s : Sr} {k : Int} (ws : List Int) (h : s.ok k) : (am ws s).2.ok (k + 2) := pk_ok _ h
def nuR (ws : List Int) : List (List AV) := ws.map fun w => [.v (.int .i64 w)]
set_option maxHeartbeats 4000000 in
theorem among_rc (b c : Nat) (s : Sr) (ws : List Int) (hbc : b ≠ c) (h : s.ok 900000) (hw : 1 ≤ ws.length) (hw2 : ws.length ≤ 1000) (k : Nat) :
    RC Try.prog 85 [.ptr b 0 0, .sl c 0 ws.length] [(b, ⟨133, 3, false, [srR s]⟩), (c, ⟨2, 1, true, nuR ws⟩)] k (.v (.int .i64 (am ws s).1)) [(b, some ⟨133, 3, false, [srR (am ws s).2]⟩), (c, some ⟨2, 1, true, nuR ws⟩)] k := by
  have hp := pk_bd s ws.length (by omega)
  obtain ⟨i, hi⟩ : ∃ i : Nat, (pk s ws.length).1 = i := ⟨(pk s ws.length).1.toNat, by omega⟩
  have hil : i < ws.length := by omega
  have hr2 : (nuR ws)[0 + ((i : Int)).toNat]? = some [.v (.int .i64 ws[i])] := by simp [nuR, hil]
  have hv : (am ws s).1 = ws[i] := by simp [am, hi, hil]
  have hs : (am ws s).2 = (pk s ws.length).2 := rfl
  rw [hv, hs]
  refine RC.ofc [b, c] 0 [.ptr 0 0 0, .sl 1 0 ws.length] [(0, ⟨133, 3, false, [srR s]⟩), (1, ⟨2, 1, true, nuR ws⟩)] (.v (.int .i64 ws[i])) [(0, some ⟨133, 3, false, [srR (pk s ws.length).2]⟩), (1, some ⟨2, 1, true, nuR ws⟩)] Try.func85 Try.ntmps85 rfl (goFn_of Try.func85 rfl (by kernel_rfl)) rfl rfl rfl rfl rfl rfl rfl rfl (by simp_all) rfl ?_
  have hpk := pick_rc 0 s (ws.length : Int) h (by omega)
  rw [hi] at hpk
  ((repeat' (first
    | (show SQ _ _ _ _ _ _ _ _; first | apply sq_nil | (apply q_move; exact rfl; exact rfl) | (apply q_assign; exact rfl; exact rfl) | (apply q_lenl; exact rfl; exact rfl; exact (ty rfl); exact rfl) | (apply q_ixl; (iterate 3 exact rfl); exact (ty rfl); (iterate 3 exact rfl); exact (by first | omega | (simp; done) | (simp; omega)); exact (by first | omega | (simp; done) | (simp; omega))) | (apply q_ld1p; exact rfl; exact rfl; exact (ty rfl); exact rfl; exact rfl; exact (by first | rfl | assumption | ((try simp only [Nat.zero_add]); refine List.getElem?_set_self ?_; (try simp only [List.length_set]); assumption)); exact rfl))
    | (show SQ _ _ _ _ _ _ _ _; (first | (apply q_callC; (iterate 3 exact rfl); exact hpk _; (focus ((repeat (first | exact trivial | refine ⟨by first | exact rfl | assumption, ?_⟩)); done)); skip)); (try simp only [put, rowsOf, plR, selE, ovr, setH, del, cellsA, splice, isV, spq, if_true, if_false]))
    | (show AW _ _ _ _ _ _ _ _; first | refine aw_region ?_ | (refine aw_seqk ?_; intro K hK) | refine aw_ret ?_)
    | refine thn_n ?_
    | (refine hK _ _ _ ?_; clear hK K))); all_goals (repeat (clear hK K)))
  exact finc (fun i => i) (.r1 _ _ (.tmp _ _ rfl)) rfl (fun _ _ => rfl) ⟨rfl, rfl, trivial⟩ rfl
end Go.Proofs.Ytglfcaioapdiaaa.Sr

namespace Go.Proofs.Ytglfcaioapdiaaa.Bk
open Go Go.RowKit Go.Proofs.Ytglfcaioapdiaaa.Aw Go.Proofs.Ytglfcaioapdiaaa.Sr
set_option linter.unusedSimpArgs false
set_option linter.unusedVariables false
attribute [local irreducible] AW SQ Step RO RC DE Thn InB
def onD (kind x y : Int) (s : Sr) : Bool × Sr :=
  if (pk s 4).1 < kind then (true, (pk s 4).2) else if y = x + 1 then (!((pk (pk s 4).2 6).1 == 0), (pk (pk s 4).2 6).2) else (false, (pk s 4).2)
theorem onD_ok {kind x y : Int} {s : Sr} {k : Int} (h : s.ok k) : (onD kind x y s).2.ok (k + 4) := by
  unfold onD
  split
  · exact (pk_ok 4 h).mono (by omega)
  · split
    · have := pk_ok 6 (pk_ok 4 h); exact this.mono (by omega)
    · exact (pk_ok 4 h).mono (by omega)
def ws1 : List Int := [0, 10, 10, 20, 50, 100, 1000, 30000]
def ws2 : List Int := [1, 10, 10, 100, 155, 400, 1000]
def stepD (kind x y : Int) (st : Sr × List Ln) : Sr × List Ln :=
  if (onD kind x y st.1).1 = true ∧ st.2.length ≠ 32 then ((am ws2 (am ws1 (onD kind x y st.1).2).2).2, st.2 ++ [⟨x, y, (am ws1 (onD kind x y st.1).2).1, (am ws2 (am ws1 (onD kind x y st.1).2).2).1⟩]) else ((onD kind x y st.1).2, st.2)
structure DOk (k : Int) (st : Sr × List Ln) : Prop where
  ok : st.1.ok k
  le : st.2.length ≤ 32
theorem DOk.mono {k k' : Int} {st : Sr × List Ln} (h : DOk k st) (hk : k ≤ k') : DOk k' st := ⟨h.ok.mono hk, h.le⟩
theorem stepD_ok {kind x y : Int} {st : Sr × List Ln} {k : Int} (h : DOk k st) : DOk (k + 8) (stepD kind x y st) := by
  unfold stepD
  split
  · rename_i hc
    refine ⟨?_, ?_⟩
    · have := am_ok ws2 (am_ok ws1 (onD_ok (kind := kind) (x := x) (y := y) h.ok))
      exact this.mono (by omega)
    · have := h.le
      have := hc.2
      simp only [List.length_append, List.length_singleton]
      omega
  · exact ⟨(onD_ok h.ok).mono (by omega), h.le⟩
def inD (kind x : Int) (st : Sr × List Ln) : Nat → Sr × List Ln
  | 0 => st
  | j + 1 => stepD kind x (x + 1 + (j : Int)) (inD kind x st j)
theorem inD_ok {kind x : Int} {st : Sr × List Ln} {k : Int} (h : DOk k st) : ∀ j : Nat, DOk (k + 8 * (j : Int)) (inD kind x st j)
  | 0 => h.mono (by omega)
  | j + 1 => (stepD_ok (inD_ok h j)).mono (by omega)
def outD (kind n : Int) (st : Sr × List Ln) : Nat → Sr × List Ln
  | 0 => st
  | i + 1 => inD kind i (outD kind n st i) (n - ((i : Int) + 1)).toNat
theorem outD_ok {kind n : Int} {st : Sr × List Ln} {k : Int} (hn : n ≤ 12) (h : DOk k st) : ∀ i : Nat, DOk (k + 96 * (i : Int)) (outD kind n st i)
  | 0 => h.mono (by omega)
  | i + 1 => (inD_ok (outD_ok hn h i) _).mono (by omega)
def nD (s : Sr) : Int := if (pk (pk s 7).2 10).1 == 0 then 12 else (pk s 7).1 + 1
def kD (s : Sr) : Int := (pk (pk (pk s 7).2 10).2 3).1 + 1
def sD (s : Sr) : Sr := (pk (pk (pk s 7).2 10).2 3).2
theorem nD_in (s : Sr) : 1 ≤ nD s ∧ nD s ≤ 12 := by
  have := pk_bd s 7 (by omega)
  unfold nD; split <;> omega
theorem kD_in (s : Sr) : 1 ≤ kD s ∧ kD s ≤ 3 := by
  have := pk_bd (pk (pk s 7).2 10).2 3 (by omega)
  unfold kD; omega
theorem sD_ok {s : Sr} {k : Int} (h : s.ok k) : (sD s).ok (k + 6) := (pk_ok 3 (pk_ok 10 (pk_ok 7 h))).mono (by omega)
def drD (s : Sr) : Sr × List Ln := outD (kD s) (nD s) (sD s, []) (nD s).toNat
theorem drD_ok {s : Sr} {k : Int} (h : s.ok k) : DOk (k + 2000) (drD s) := by
  have hn := nD_in s
  refine (outD_ok (k := k + 6) (kind := kD s) (st := (sD s, [])) hn.2 ⟨sD_ok h, by simp⟩ (nD s).toNat).mono ?_
  omega
theorem onD_1 {kind x y : Int} {s : Sr} (h : (pk s 4).1 < kind) : onD kind x y s = (true, (pk s 4).2) := if_pos h
theorem onD_2 {kind x y : Int} {s : Sr} (h : ¬ (pk s 4).1 < kind) (hy : y = x + 1) : onD kind x y s = (!((pk (pk s 4).2 6).1 == 0), (pk (pk s 4).2 6).2) := by
  unfold onD; rw [if_neg h, if_pos hy]
theorem onD_3 {kind x y : Int} {s : Sr} (h : ¬ (pk s 4).1 < kind) (hy : y ≠ x + 1) : onD kind x y s = (false, (pk s 4).2) := by
  unfold onD; rw [if_neg h, if_neg hy]
theorem stepD_no {kind x y : Int} {st : Sr × List Ln} {b : Bool} {s' : Sr} (e : onD kind x y st.1 = (b, s')) (h : b = false ∨ st.2.length = 32) : stepD kind x y st = (s', st.2) := by
  unfold stepD; rw [e, if_neg]
  rintro ⟨h1, h2⟩
  rcases h with h | h
  · rw [h] at h1; cases h1
  · exact h2 h
theorem stepD_yes {kind x y : Int} {st : Sr × List Ln} {s' : Sr} (e : onD kind x y st.1 = (true, s')) (h : st.2.length ≠ 32) : stepD kind x y st = ((am ws2 (am ws1 s').2).2, st.2 ++ [⟨x, y, (am ws1 s').1, (am ws2 (am ws1 s').2).1⟩]) := by
  unfold stepD; rw [e, if_pos ⟨rfl, h⟩]
set_option maxHeartbeats 4000000 in
theorem l25DrawOk_rc (b : Nat) (s : Sr) (h : s.ok 100000) (k : Nat) : RC Try.prog 132 [.ptr b 0 0] [(b, ⟨133, 3, false, [srR s]⟩)] k (.agg [.v (.int .i64 (nD s)), .sl k 0 (drD s).2.length])
    [(b, some ⟨133, 3, false, [srR (drD s).1]⟩), (k, some ⟨56, 4, true, (drD s).2.map lnL⟩)] (k + 1) := by
  have h1 := pick_rc 0 s 7 (h.mono (by omega)) (by omega)
  have h2 := one_rc 0 (pk s 7).2 10 ((pk_ok 7 h).mono (by omega)) (by omega)
  have h3 := pick_rc 0 (pk (pk s 7).2 10).2 3 ((pk_ok 10 (pk_ok 7 h)).mono (by omega)) (by omega)
  have hb1 := pk_bd s 7 (by omega)
  have hb3 := pk_bd (pk (pk s 7).2 10).2 3 (by omega)
  have hw1 : IntKind.i64.wrap ((pk s 7).1 + 1) = (pk s 7).1 + 1 := IntWalk.i64_in _ (by omega)
  have hw3 : IntKind.i64.wrap ((pk (pk (pk s 7).2 10).2 3).1 + 1) = kD s := IntWalk.i64_in _ (by omega)
  have hnD := nD_in s
  have hkD := kD_in s
  have hv : nD s = (if ((pk (pk s 7).2 10).1 == 0) = true then 12 else IntKind.i64.wrap ((pk s 7).1 + 1)) := by rw [hw1]; rfl
  have hst0 : DOk 200000 (sD s, ([] : List Ln)) := ⟨(sD_ok h).mono (by omega), by simp⟩
  have hend : drD s = outD (kD s) (nD s) (sD s, []) (nD s).toNat := rfl
  rw [hend]
  have hsD : (pk (pk (pk s 7).2 10).2 3).2 = sD s := rfl
  rw [hsD] at h3
  generalize hkk : kD s = kind at *
  generalize hss : sD s = s0 at *
  generalize hnn : nD s = n at *
  refine RC.ofc [b] 1 [.ptr 0 0 0] [(0, ⟨133, 3, false, [srR s]⟩)] (.agg [.v (.int .i64 n), .sl 1 0 (outD kind n (s0, []) n.toNat).2.length]) [(0, some ⟨133, 3, false, [srR (outD kind n (s0, []) n.toNat).1]⟩), (1, some ⟨56, 4, true, (outD kind n (s0, []) n.toNat).2.map lnL⟩)] Try.func132 Try.ntmps132 rfl (goFn_of Try.func132 rfl (by kernel_rfl)) rfl rfl rfl rfl rfl rfl rfl rfl (by simp_all) rfl ?_
  cases hc : ((pk (pk s 7).2 10).1 == 0)
  all_goals
    rw [hc] at hv
    simp only [if_true, Bool.false_eq_true, if_false] at hv
    ((repeat' (first
    | (show SQ _ _ _ _ _ _ _ _; first | apply sq_nil | (apply q_move; exact rfl; exact rfl) | (apply q_assign; exact rfl; exact rfl) | (apply q_add; iterate 3 exact rfl) | (apply q_build; exact rfl; exact (ty rfl); iterate 3 exact rfl))
    | (show SQ _ _ _ _ _ _ _ _; (first | (apply q_alloc; exact rfl; exact (ty rfl); exact rfl; exact rfl) | (apply q_store; exact rfl; exact rfl; exact (ty rfl); exact rfl; exact (by first | rfl | assumption | ((try simp only [Nat.zero_add]); refine List.getElem?_set_self ?_; (try simp only [List.length_set]); assumption)); iterate 3 exact rfl) | (apply q_build0; exact rfl; exact (ty rfl); exact rfl) | (apply q_callC; (iterate 3 exact rfl); exact h1 _; (focus ((repeat (first | exact trivial | refine ⟨by first | exact rfl | assumption, ?_⟩)); done)); skip) | (apply q_callC; (iterate 3 exact rfl); exact h2 _; (focus ((repeat (first | exact trivial | refine ⟨by first | exact rfl | assumption, ?_⟩)); done)); skip) | (apply q_callC; (iterate 3 exact rfl); exact h3 _; (focus ((repeat (first | exact trivial | refine ⟨by first | exact rfl | assumption, ?_⟩)); done)); skip)); (try simp only [put, rowsOf, plR, selE, ovr, setH, del, cellsA, splice, isV, spq, if_true, if_false]))
    | (show AW _ _ _ _ _ _ _ _; first | refine aw_region ?_ | (refine aw_seqk ?_; intro K hK) | refine aw_block ?_ | (apply aw_cond_t; exact rfl; exact (by assumption)) | (apply aw_cond_f; exact rfl; exact (by assumption)) | refine aw_skip ?_)
    | refine thn_n ?_
    | (refine hK _ _ _ ?_; clear hK K))); all_goals (repeat (clear hK K)))
    rw [← hv]
    show AW _ _ 1 _ _ _ _ _
    refine aw_loop (ρ := fun z => z) (ι := Nat) (fun i => ([(6, .v (.int .i64 i)), (5, .v (.int .i64 kind)), (4, .ptr 3 0 0), (3, .v (.int .i64 n)), (2, .ptr 1 0 0), (0, .ptr 0 0 0)],
        [(0, ⟨133, 3, false, [srR (outD kind n (s0, []) i).1]⟩), (1, ⟨31, 2, false, [[.v (.int .i64 0), .v (.slice none 0 0)]]⟩), (2, ⟨56, 4, true, (outD kind n (s0, []) i).2.map lnL⟩), (3, ⟨31, 2, false, [[.v (.int .i64 n), .sl 2 0 (outD kind n (s0, []) i).2.length]]⟩)], 4))
      (fun i => i ≤ n.toNat) (fun i => n.toNat - i) 0 (Nat.zero_le _) ⟨by (repeat (refine ⟨by first | exact lk_i rfl rfl | exact lk_i rfl (by (try dsimp only); first | rfl | omega | (rw [IntWalk.i64_in _ (by omega)]; first | rfl | omega | (push_cast; omega)) | (simp; done) | (simp; omega)) | exact lk_r rfl rfl rfl, ?_⟩)); exact trivial, by (repeat (refine ⟨by first | exact ⟨rfl, rfl, rfl⟩, ?_⟩)); exact trivial, by rfl, by (intro i hi; (try dsimp only); refine ⟨?_, ?_⟩ <;> first | rfl | omega | (simp at hi; omega) | (simp; omega))⟩ ?_
    intro i hi
    have hO := outD_ok (kind := kind) (n := n) hnD.2 hst0 i
    have hO1 : outD kind n (s0, []) (i + 1) = inD kind i (outD kind n (s0, []) i) (n - ((i : Int) + 1)).toNat := rfl
    by_cases c1 : i < n.toNat
    · have b1 : decide ((i : Int) < n) = true := by simp; omega
      have hwi : IntKind.i64.wrap ((i : Int) + 1) = ((i + 1 : Nat) : Int) := by rw [IntWalk.i64_in _ (by omega)]; omega
      have hwi2 : IntKind.i64.wrap ((i : Int) + 1) = (i : Int) + 1 + ((0 : Nat) : Int) := by rw [IntWalk.i64_in _ (by omega)]; omega
      have hwi3 : IntKind.i64.wrap ((i : Int) + 1) = (i : Int) + 1 := IntWalk.i64_in _ (by omega)
      generalize outD kind n (s0, []) i = Z0 at *
      have hZ0 : DOk 202000 Z0 := hO.mono (by omega)
      ((repeat' (first
    | (show SQ _ _ _ _ _ _ _ _; first | apply sq_nil | (apply q_move; exact rfl; exact rfl) | (apply q_assign; exact rfl; exact rfl) | (apply q_add; iterate 3 exact rfl) | (apply q_lss; iterate 3 exact rfl))
    | (show AW _ _ _ _ _ _ _ _; first | refine aw_region ?_ | (refine aw_seqk ?_; intro K hK) | refine aw_block ?_ | (apply aw_cond_t; exact rfl; exact (by assumption)) | refine aw_skip ?_)
    | refine thn_n ?_
    | (refine hK _ _ _ ?_; clear hK K))); all_goals (repeat (clear hK K)))
      show AW _ _ 1 _ _ _ _ _
      refine aw_loop (ρ := fun z => z) (ι := Nat) (fun j => ([(7, .v (.int .i64 ((i : Int) + 1 + (j : Int)))), (6, .v (.int .i64 i)), (5, .v (.int .i64 kind)), (4, .ptr 3 0 0), (3, .v (.int .i64 n)), (2, .ptr 1 0 0), (0, .ptr 0 0 0)],
          [(0, ⟨133, 3, false, [srR (inD kind i Z0 j).1]⟩), (1, ⟨31, 2, false, [[.v (.int .i64 0), .v (.slice none 0 0)]]⟩), (2, ⟨56, 4, true, (inD kind i Z0 j).2.map lnL⟩), (3, ⟨31, 2, false, [[.v (.int .i64 n), .sl 2 0 (inD kind i Z0 j).2.length]]⟩)], 4))
        (fun j => j ≤ (n - ((i : Int) + 1)).toNat) (fun j => (n - ((i : Int) + 1)).toNat - j) 0 (Nat.zero_le _) ⟨by (repeat (refine ⟨by first | exact lk_i rfl rfl | exact lk_i rfl (by (try dsimp only); first | rfl | omega | (rw [IntWalk.i64_in _ (by omega)]; first | rfl | omega | (push_cast; omega)) | (simp; done) | (simp; omega)) | exact lk_r rfl rfl rfl, ?_⟩)); exact trivial, by (repeat (refine ⟨by first | exact ⟨rfl, rfl, rfl⟩, ?_⟩)); exact trivial, by rfl, by (intro i hi; (try dsimp only); refine ⟨?_, ?_⟩ <;> first | rfl | omega | (simp at hi; omega) | (simp; omega))⟩ ?_
      intro j hj
      have hI := inD_ok (kind := kind) (x := i) hZ0 j
      have hI1 : inD kind i Z0 (j + 1) = stepD kind i ((i : Int) + 1 + (j : Int)) (inD kind i Z0 j) := rfl
      by_cases c2 : j < (n - ((i : Int) + 1)).toNat
      · have b2 : decide (((i : Int) + 1 + (j : Int)) < n) = true := by simp; omega
        have hwj : IntKind.i64.wrap ((i : Int) + 1 + (j : Int) + 1) = (i : Int) + 1 + ((j + 1 : Nat) : Int) := by rw [IntWalk.i64_in _ (by omega)]; omega
        generalize inD kind i Z0 j = Z at *
        have hZ : DOk 203000 Z := hI.mono (by omega)
        obtain ⟨sz, L⟩ := Z
        have hL := hZ.le
        have hok := hZ.ok
        dsimp only at hL hok hI1 ⊢
        have p4 := pick_rc 0 sz 4 (hok.mono (by omega)) (by omega)
        have hok4 := pk_ok 4 hok
        have p6 := one_rc 0 (pk sz 4).2 6 (hok4.mono (by omega)) (by omega)
        have hok6 := pk_ok 6 hok4
        have hml : (L.map lnL).length = L.length := List.length_map _
        -- how a draw ends: with a link or without
        by_cases c3 : (pk sz 4).1 < kind
        · have b3 : decide ((pk sz 4).1 < kind) = true := by simpa using c3
          have e1 := onD_1 (kind := kind) (x := i) (y := (i : Int) + 1 + (j : Int)) c3
          by_cases c5 : L.length = 32
          · have b5 : ((L.length : Int) == 32) = true := by rw [c5]; rfl
            have e2 := stepD_no (st := (sz, L)) e1 (.inr c5)
            ((repeat' (first
    | (show SQ _ _ _ _ _ _ _ _; first | apply sq_nil | (apply q_move; exact rfl; exact rfl) | (apply q_assign; exact rfl; exact rfl) | (apply q_pick_t; (iterate 3 exact rfl); exact (by first | assumption | exact rfl)) | (apply q_pick_f; (iterate 3 exact rfl); exact (by first | assumption | exact rfl)) | (apply q_fieldAddr; exact rfl; exact rfl; exact (ty rfl); iterate 4 exact rfl) | (apply q_not; exact rfl; exact rfl) | (apply q_lenl; exact rfl; exact rfl; exact (ty rfl); exact rfl) | (apply q_add; iterate 3 exact rfl) | (apply q_eql; iterate 3 exact rfl) | (apply q_lss; iterate 3 exact rfl) | (apply q_ld1p; exact rfl; exact rfl; exact (ty rfl); exact rfl; exact rfl; exact (by first | rfl | assumption | ((try simp only [Nat.zero_add]); refine List.getElem?_set_self ?_; (try simp only [List.length_set]); assumption)); exact rfl) | (apply q_s; (iterate 3 exact rfl); exact (by assumption); exact rfl) | (apply q_g; iterate 4 exact rfl) | (apply q_sU; iterate 4 exact rfl))
    | (show SQ _ _ _ _ _ _ _ _; (first | (apply q_callC; (iterate 3 exact rfl); exact p4 _; (focus ((repeat (first | exact trivial | refine ⟨by first | exact rfl | assumption, ?_⟩)); done)); skip)); (try simp only [put, rowsOf, plR, selE, ovr, setH, del, cellsA, splice, isV, spq, if_true, if_false]))
    | (show AW _ _ _ _ _ _ _ _; first | refine aw_region ?_ | (refine aw_seqk ?_; intro K hK) | refine aw_block ?_ | (apply aw_cond_t; exact rfl; exact (by assumption)) | refine aw_exit ?_ | refine aw_skip ?_)
    | refine thn_n ?_
    | (refine hK _ _ _ ?_; clear hK K)
    | refine thn_e ?_
    | refine inb_same ?_
    | (clear hK K; refine hK _ _ _ ?_; clear hK K))); all_goals (repeat (clear hK K)))
            all_goals (refine ⟨j + 1, fun z => z, c2, by omega, ?_⟩; (try dsimp only); rw [hI1, e2, ← hwj]; exact ⟨by (repeat (refine ⟨by first | exact lk_i rfl rfl | exact lk_r rfl rfl rfl, ?_⟩)); exact trivial, by (repeat (refine ⟨by first | exact ⟨rfl, rfl, rfl⟩, ?_⟩)); exact trivial, by rfl, by (intro i hi; (try dsimp only); refine ⟨?_, ?_⟩ <;> first | rfl | omega | (simp at hi; omega) | (simp; omega))⟩)
          · have b5 : ((L.length : Int) == 32) = false := by simp; omega
            have e2 := stepD_yes (st := (sz, L)) e1 c5
            have a1 := among_rc 0 5 (pk sz 4).2 ws1 (by decide) (hok4.mono (by omega)) (by decide) (by decide)
            have hok1 := am_ok ws1 hok4
            have a2 := among_rc 0 6 (am ws1 (pk sz 4).2).2 ws2 (by decide) (hok1.mono (by omega)) (by decide) (by decide)
            generalize am ws1 (pk sz 4).2 = A1 at *
            generalize am ws2 A1.2 = A2 at *
            obtain ⟨o1, s1⟩ := A1
            obtain ⟨o2, s2⟩ := A2
            dsimp only at e2 a1 a2 ⊢
            simp only [nuR, ws1, ws2, List.map_cons, List.map_nil, List.length_cons, List.length_nil] at a1 a2
            ((repeat' (first
    | (show SQ _ _ _ _ _ _ _ _; first | apply sq_nil | (apply q_move; exact rfl; exact rfl) | (apply q_assign; exact rfl; exact rfl) | (apply q_pick_t; (iterate 3 exact rfl); exact (by first | assumption | exact rfl)) | (apply q_pick_f; (iterate 3 exact rfl); exact (by first | assumption | exact rfl)) | (apply q_fieldAddr; exact rfl; exact rfl; exact (ty rfl); iterate 4 exact rfl) | (apply q_not; exact rfl; exact rfl) | (apply q_lenl; exact rfl; exact rfl; exact (ty rfl); exact rfl) | (apply q_add; iterate 3 exact rfl) | (apply q_eql; iterate 3 exact rfl) | (apply q_lss; iterate 3 exact rfl) | (apply q_ld1p; exact rfl; exact rfl; exact (ty rfl); exact rfl; exact rfl; exact (by first | rfl | assumption | ((try simp only [Nat.zero_add]); refine List.getElem?_set_self ?_; (try simp only [List.length_set]); assumption)); exact rfl) | (apply q_build; exact rfl; exact (ty rfl); iterate 3 exact rfl) | (apply q_s; (iterate 3 exact rfl); exact (by assumption); exact rfl) | (apply q_g; iterate 4 exact rfl) | (apply q_sU; iterate 4 exact rfl))
    | (show SQ _ _ _ _ _ _ _ _; (first | (apply q_ldap; exact rfl; exact rfl; exact (ty rfl); exact rfl; exact rfl; exact (by first | rfl | assumption | ((try simp only [Nat.zero_add]); refine List.getElem?_set_self ?_; (try simp only [List.length_set]); assumption)); exact rfl) | (apply q_alloc; exact rfl; exact (ty rfl); exact rfl; exact rfl) | (apply q_store; exact rfl; exact rfl; exact (ty rfl); exact rfl; exact (by first | rfl | assumption | ((try simp only [Nat.zero_add]); refine List.getElem?_set_self ?_; (try simp only [List.length_set]); assumption)); iterate 3 exact rfl) | (apply q_buildn; exact rfl; exact (ty rfl); iterate 7 exact rfl) | (apply q_apo_s; (iterate 3 exact rfl); exact (ty rfl); exact rfl; exact rfl; exact (by first | omega | (simp; done) | (simp; omega)); exact (by first | exact List.take_of_length_le (by first | omega | (simp; done) | (simp; omega)) | rfl); exact (ty rfl); exact rfl; exact rfl; exact (by first | omega | (simp; done) | (simp; omega)); exact (by first | exact dt_full (by first | omega | (simp; done) | (simp; omega)) | assumption | rfl); exact rfl; exact (by first | omega | (simp; done) | (simp; omega)); exact (by first | omega | (simp; done) | (simp; omega)); exact (by first | assumption | exact rfl)) | (apply q_callC; (iterate 3 exact rfl); exact p4 _; (focus ((repeat (first | exact trivial | refine ⟨by first | exact rfl | assumption, ?_⟩)); done)); skip) | (apply q_callC; (iterate 3 exact rfl); exact a1 _; (focus ((repeat (first | exact trivial | refine ⟨by first | exact rfl | assumption, ?_⟩)); done)); skip) | (apply q_callC; (iterate 3 exact rfl); exact a2 _; (focus ((repeat (first | exact trivial | refine ⟨by first | exact rfl | assumption, ?_⟩)); done)); skip)); (try simp only [put, rowsOf, plR, selE, ovr, setH, del, cellsA, splice, isV, spq, if_true, if_false]))
    | (show AW _ _ _ _ _ _ _ _; first | refine aw_region ?_ | (refine aw_seqk ?_; intro K hK) | refine aw_block ?_ | (apply aw_cond_t; exact rfl; exact (by assumption)) | (apply aw_cond_f; exact rfl; exact (by assumption)) | refine aw_skip ?_)
    | refine thn_n ?_
    | (refine hK _ _ _ ?_; clear hK K)
    | refine inb_n ?_)); all_goals (repeat (clear hK K)))
            all_goals (refine ⟨j + 1, fun z => if z = 2 then 8 else z, c2, by omega, ?_⟩; (try dsimp only); rw [hI1, e2, ← hwj]; (try dsimp only); rw [List.map_append, List.length_append]; exact ⟨by (repeat (refine ⟨by first | exact lk_i rfl rfl | exact lk_r rfl rfl rfl, ?_⟩)); exact trivial, by (repeat (refine ⟨by first | exact ⟨rfl, rfl, rfl⟩, ?_⟩)); exact trivial, by rfl, by (intro i hi; (try dsimp only); refine ⟨?_, ?_⟩ <;> first | rfl | omega | (simp at hi; omega) | (simp; omega))⟩)
        · have b3 : decide ((pk sz 4).1 < kind) = false := by simpa using c3
          by_cases c4 : (i : Int) + 1 + (j : Int) = (i : Int) + 1
          · have b4 : ((i : Int) + 1 + (j : Int) == IntKind.i64.wrap ((i : Int) + 1)) = true := by rw [hwi3]; simpa using c4
            have e1 := onD_2 (kind := kind) (x := i) (y := (i : Int) + 1 + (j : Int)) c3 c4
            cases c6 : ((pk (pk sz 4).2 6).1 == 0) with
            | true =>
              have b6 : (!((pk (pk sz 4).2 6).1 == 0)) = false := by rw [c6]; rfl
              have b7 : (!(!((pk (pk sz 4).2 6).1 == 0))) = true := by rw [c6]; rfl
              rw [b6] at e1
              have e2 := stepD_no (st := (sz, L)) e1 (.inl rfl)
              ((repeat' (first
    | (show SQ _ _ _ _ _ _ _ _; first | apply sq_nil | (apply q_move; exact rfl; exact rfl) | (apply q_assign; exact rfl; exact rfl) | (apply q_pick_t; (iterate 3 exact rfl); exact (by first | assumption | exact rfl)) | (apply q_pick_f; (iterate 3 exact rfl); exact (by first | assumption | exact rfl)) | (apply q_not; exact rfl; exact rfl) | (apply q_add; iterate 3 exact rfl) | (apply q_eql; iterate 3 exact rfl) | (apply q_lss; iterate 3 exact rfl) | (apply q_g; (iterate 3 exact rfl); exact (by assumption)) | (apply q_s; (iterate 3 exact rfl); exact (by assumption); exact rfl))
    | (show SQ _ _ _ _ _ _ _ _; (first | (apply q_callC; (iterate 3 exact rfl); exact p4 _; (focus ((repeat (first | exact trivial | refine ⟨by first | exact rfl | assumption, ?_⟩)); done)); skip) | (apply q_callC; (iterate 3 exact rfl); exact p6 _; (focus ((repeat (first | exact trivial | refine ⟨by first | exact rfl | assumption, ?_⟩)); done)); skip)); (try simp only [put, rowsOf, plR, selE, ovr, setH, del, cellsA, splice, isV, spq, if_true, if_false]))
    | (show AW _ _ _ _ _ _ _ _; first | refine aw_region ?_ | (refine aw_seqk ?_; intro K hK) | refine aw_block ?_ | (apply aw_cond_t; exact rfl; exact rfl) | (apply aw_cond_t; exact rfl; exact (by assumption)) | refine aw_exit ?_ | refine aw_skip ?_)
    | refine thn_n ?_
    | (refine hK _ _ _ ?_; clear hK K)
    | refine thn_e ?_
    | refine inb_same ?_
    | (clear hK K; refine hK _ _ _ ?_; clear hK K))); all_goals (repeat (clear hK K)))
              all_goals (refine ⟨j + 1, fun z => z, c2, by omega, ?_⟩; (try dsimp only); rw [hI1, e2, ← hwj]; exact ⟨by (repeat (refine ⟨by first | exact lk_i rfl rfl | exact lk_r rfl rfl rfl, ?_⟩)); exact trivial, by (repeat (refine ⟨by first | exact ⟨rfl, rfl, rfl⟩, ?_⟩)); exact trivial, by rfl, by (intro i hi; (try dsimp only); refine ⟨?_, ?_⟩ <;> first | rfl | omega | (simp at hi; omega) | (simp; omega))⟩)
            | false =>
              have b6 : (!((pk (pk sz 4).2 6).1 == 0)) = true := by rw [c6]; rfl
              have b7 : (!(!((pk (pk sz 4).2 6).1 == 0))) = false := by rw [c6]; rfl
              rw [b6] at e1
              by_cases c5 : L.length = 32
              · have b5 : ((L.length : Int) == 32) = true := by rw [c5]; rfl
                have e2 := stepD_no (st := (sz, L)) e1 (.inr c5)
                ((repeat' (first
    | (show SQ _ _ _ _ _ _ _ _; first | apply sq_nil | (apply q_move; exact rfl; exact rfl) | (apply q_assign; exact rfl; exact rfl) | (apply q_pick_t; (iterate 3 exact rfl); exact (by first | assumption | exact rfl)) | (apply q_pick_f; (iterate 3 exact rfl); exact (by first | assumption | exact rfl)) | (apply q_fieldAddr; exact rfl; exact rfl; exact (ty rfl); iterate 4 exact rfl) | (apply q_not; exact rfl; exact rfl) | (apply q_lenl; exact rfl; exact rfl; exact (ty rfl); exact rfl) | (apply q_add; iterate 3 exact rfl) | (apply q_eql; iterate 3 exact rfl) | (apply q_lss; iterate 3 exact rfl) | (apply q_ld1p; exact rfl; exact rfl; exact (ty rfl); exact rfl; exact rfl; exact (by first | rfl | assumption | ((try simp only [Nat.zero_add]); refine List.getElem?_set_self ?_; (try simp only [List.length_set]); assumption)); exact rfl) | (apply q_g; (iterate 3 exact rfl); exact (by assumption)))
    | (show SQ _ _ _ _ _ _ _ _; (first | (apply q_callC; (iterate 3 exact rfl); exact p4 _; (focus ((repeat (first | exact trivial | refine ⟨by first | exact rfl | assumption, ?_⟩)); done)); skip) | (apply q_callC; (iterate 3 exact rfl); exact p6 _; (focus ((repeat (first | exact trivial | refine ⟨by first | exact rfl | assumption, ?_⟩)); done)); skip)); (try simp only [put, rowsOf, plR, selE, ovr, setH, del, cellsA, splice, isV, spq, if_true, if_false]))
    | (show AW _ _ _ _ _ _ _ _; first | refine aw_region ?_ | (refine aw_seqk ?_; intro K hK) | refine aw_block ?_ | (apply aw_cond_t; exact rfl; exact (by assumption)) | refine aw_exit ?_ | refine aw_skip ?_)
    | refine thn_n ?_
    | (refine hK _ _ _ ?_; clear hK K)
    | refine thn_e ?_
    | refine inb_same ?_
    | (clear hK K; refine hK _ _ _ ?_; clear hK K))); all_goals (repeat (clear hK K)))
                all_goals (refine ⟨j + 1, fun z => z, c2, by omega, ?_⟩; (try dsimp only); rw [hI1, e2, ← hwj]; exact ⟨by (repeat (refine ⟨by first | exact lk_i rfl rfl | exact lk_r rfl rfl rfl, ?_⟩)); exact trivial, by (repeat (refine ⟨by first | exact ⟨rfl, rfl, rfl⟩, ?_⟩)); exact trivial, by rfl, by (intro i hi; (try dsimp only); refine ⟨?_, ?_⟩ <;> first | rfl | omega | (simp at hi; omega) | (simp; omega))⟩)
              · have b5 : ((L.length : Int) == 32) = false := by simp; omega
                have e2 := stepD_yes (st := (sz, L)) e1 c5
                have a1 := among_rc 0 5 (pk (pk sz 4).2 6).2 ws1 (by decide) (hok6.mono (by omega)) (by decide) (by decide)
                have hok1 := am_ok ws1 hok6
                have a2 := among_rc 0 6 (am ws1 (pk (pk sz 4).2 6).2).2 ws2 (by decide) (hok1.mono (by omega)) (by decide) (by decide)
                generalize am ws1 (pk (pk sz 4).2 6).2 = A1 at *
                generalize am ws2 A1.2 = A2 at *
                obtain ⟨o1, s1⟩ := A1
                obtain ⟨o2, s2⟩ := A2
                dsimp only at e2 a1 a2 ⊢
                simp only [nuR, ws1, ws2, List.map_cons, List.map_nil, List.length_cons, List.length_nil] at a1 a2
                ((repeat' (first
    | (show SQ _ _ _ _ _ _ _ _; first | apply sq_nil | (apply q_move; exact rfl; exact rfl) | (apply q_assign; exact rfl; exact rfl) | (apply q_pick_t; (iterate 3 exact rfl); exact (by first | assumption | exact rfl)) | (apply q_pick_f; (iterate 3 exact rfl); exact (by first | assumption | exact rfl)) | (apply q_fieldAddr; exact rfl; exact rfl; exact (ty rfl); iterate 4 exact rfl) | (apply q_not; exact rfl; exact rfl) | (apply q_lenl; exact rfl; exact rfl; exact (ty rfl); exact rfl) | (apply q_add; iterate 3 exact rfl) | (apply q_eql; iterate 3 exact rfl) | (apply q_lss; iterate 3 exact rfl) | (apply q_ld1p; exact rfl; exact rfl; exact (ty rfl); exact rfl; exact rfl; exact (by first | rfl | assumption | ((try simp only [Nat.zero_add]); refine List.getElem?_set_self ?_; (try simp only [List.length_set]); assumption)); exact rfl) | (apply q_build; exact rfl; exact (ty rfl); iterate 3 exact rfl) | (apply q_g; (iterate 3 exact rfl); exact (by assumption)))
    | (show SQ _ _ _ _ _ _ _ _; (first | (apply q_ldap; exact rfl; exact rfl; exact (ty rfl); exact rfl; exact rfl; exact (by first | rfl | assumption | ((try simp only [Nat.zero_add]); refine List.getElem?_set_self ?_; (try simp only [List.length_set]); assumption)); exact rfl) | (apply q_alloc; exact rfl; exact (ty rfl); exact rfl; exact rfl) | (apply q_store; exact rfl; exact rfl; exact (ty rfl); exact rfl; exact (by first | rfl | assumption | ((try simp only [Nat.zero_add]); refine List.getElem?_set_self ?_; (try simp only [List.length_set]); assumption)); iterate 3 exact rfl) | (apply q_buildn; exact rfl; exact (ty rfl); iterate 7 exact rfl) | (apply q_apo_s; (iterate 3 exact rfl); exact (ty rfl); exact rfl; exact rfl; exact (by first | omega | (simp; done) | (simp; omega)); exact (by first | exact List.take_of_length_le (by first | omega | (simp; done) | (simp; omega)) | rfl); exact (ty rfl); exact rfl; exact rfl; exact (by first | omega | (simp; done) | (simp; omega)); exact (by first | exact dt_full (by first | omega | (simp; done) | (simp; omega)) | assumption | rfl); exact rfl; exact (by first | omega | (simp; done) | (simp; omega)); exact (by first | omega | (simp; done) | (simp; omega)); exact (by first | assumption | exact rfl)) | (apply q_callC; (iterate 3 exact rfl); exact p4 _; (focus ((repeat (first | exact trivial | refine ⟨by first | exact rfl | assumption, ?_⟩)); done)); skip) | (apply q_callC; (iterate 3 exact rfl); exact p6 _; (focus ((repeat (first | exact trivial | refine ⟨by first | exact rfl | assumption, ?_⟩)); done)); skip) | (apply q_callC; (iterate 3 exact rfl); exact a1 _; (focus ((repeat (first | exact trivial | refine ⟨by first | exact rfl | assumption, ?_⟩)); done)); skip) | (apply q_callC; (iterate 3 exact rfl); exact a2 _; (focus ((repeat (first | exact trivial | refine ⟨by first | exact rfl | assumption, ?_⟩)); done)); skip)); (try simp only [put, rowsOf, plR, selE, ovr, setH, del, cellsA, splice, isV, spq, if_true, if_false]))
    | (show AW _ _ _ _ _ _ _ _; first | refine aw_region ?_ | (refine aw_seqk ?_; intro K hK) | refine aw_block ?_ | (apply aw_cond_t; exact rfl; exact (by assumption)) | (apply aw_cond_f; exact rfl; exact (by assumption)) | refine aw_skip ?_)
    | refine thn_n ?_
    | (refine hK _ _ _ ?_; clear hK K)
    | refine inb_n ?_)); all_goals (repeat (clear hK K)))
                all_goals (refine ⟨j + 1, fun z => if z = 2 then 8 else z, c2, by omega, ?_⟩; (try dsimp only); rw [hI1, e2, ← hwj]; (try dsimp only); rw [List.map_append, List.length_append]; exact ⟨by (repeat (refine ⟨by first | exact lk_i rfl rfl | exact lk_r rfl rfl rfl, ?_⟩)); exact trivial, by (repeat (refine ⟨by first | exact ⟨rfl, rfl, rfl⟩, ?_⟩)); exact trivial, by rfl, by (intro i hi; (try dsimp only); refine ⟨?_, ?_⟩ <;> first | rfl | omega | (simp at hi; omega) | (simp; omega))⟩)
          · have b4 : ((i : Int) + 1 + (j : Int) == IntKind.i64.wrap ((i : Int) + 1)) = false := by rw [hwi3]; simpa using c4
            have e1 := onD_3 (kind := kind) (x := i) (y := (i : Int) + 1 + (j : Int)) c3 c4
            have e2 := stepD_no (st := (sz, L)) e1 (.inl rfl)
            ((repeat' (first
    | (show SQ _ _ _ _ _ _ _ _; first | apply sq_nil | (apply q_move; exact rfl; exact rfl) | (apply q_assign; exact rfl; exact rfl) | (apply q_pick_t; (iterate 3 exact rfl); exact (by first | assumption | exact rfl)) | (apply q_pick_f; (iterate 3 exact rfl); exact (by first | assumption | exact rfl)) | (apply q_not; exact rfl; exact rfl) | (apply q_add; iterate 3 exact rfl) | (apply q_eql; iterate 3 exact rfl) | (apply q_lss; iterate 3 exact rfl) | (apply q_g; (iterate 3 exact rfl); exact (by assumption)) | (apply q_s; (iterate 3 exact rfl); exact (by assumption); exact rfl) | (apply q_s; iterate 5 exact rfl))
    | (show SQ _ _ _ _ _ _ _ _; (first | (apply q_callC; (iterate 3 exact rfl); exact p4 _; (focus ((repeat (first | exact trivial | refine ⟨by first | exact rfl | assumption, ?_⟩)); done)); skip)); (try simp only [put, rowsOf, plR, selE, ovr, setH, del, cellsA, splice, isV, spq, if_true, if_false]))
    | (show AW _ _ _ _ _ _ _ _; first | refine aw_region ?_ | (refine aw_seqk ?_; intro K hK) | refine aw_block ?_ | (apply aw_cond_t; exact rfl; exact rfl) | (apply aw_cond_t; exact rfl; exact (by assumption)) | refine aw_exit ?_ | refine aw_skip ?_)
    | refine thn_n ?_
    | (refine hK _ _ _ ?_; clear hK K)
    | refine thn_e ?_
    | refine inb_same ?_
    | (clear hK K; refine hK _ _ _ ?_; clear hK K))); all_goals (repeat (clear hK K)))
            all_goals (refine ⟨j + 1, fun z => z, c2, by omega, ?_⟩; (try dsimp only); rw [hI1, e2, ← hwj]; exact ⟨by (repeat (refine ⟨by first | exact lk_i rfl rfl | exact lk_r rfl rfl rfl, ?_⟩)); exact trivial, by (repeat (refine ⟨by first | exact ⟨rfl, rfl, rfl⟩, ?_⟩)); exact trivial, by rfl, by (intro i hi; (try dsimp only); refine ⟨?_, ?_⟩ <;> first | rfl | omega | (simp at hi; omega) | (simp; omega))⟩)
      · have b2 : decide (((i : Int) + 1 + (j : Int)) < n) = false := by simp; omega
        obtain rfl : j = (n - ((i : Int) + 1)).toNat := by omega
        ((repeat' (first
    | (show SQ _ _ _ _ _ _ _ _; first | apply sq_nil | (apply q_move; exact rfl; exact rfl) | (apply q_assign; exact rfl; exact rfl) | (apply q_add; iterate 3 exact rfl) | (apply q_lss; iterate 3 exact rfl))
    | (show AW _ _ _ _ _ _ _ _; first | refine aw_region ?_ | (refine aw_seqk ?_; intro K hK) | (apply aw_cond_f; exact rfl; exact (by assumption)) | refine aw_exit ?_)
    | refine thn_n ?_
    | (refine hK _ _ _ ?_; clear hK K)
    | refine thn_e ?_
    | refine inb_same ?_
    | refine inb_n ?_
    | (clear hK K; refine hK _ _ _ ?_; clear hK K))); all_goals (repeat (clear hK K)))
        all_goals (refine ⟨i + 1, fun z => z, c1, by omega, ?_⟩; (try dsimp only); rw [hO1, ← hwi]; exact ⟨by (repeat (refine ⟨by first | exact lk_i rfl rfl | exact lk_r rfl rfl rfl, ?_⟩)); exact trivial, by (repeat (refine ⟨by first | exact ⟨rfl, rfl, rfl⟩, ?_⟩)); exact trivial, by rfl, by (intro i hi; (try dsimp only); refine ⟨?_, ?_⟩ <;> first | rfl | omega | (simp at hi; omega) | (simp; omega))⟩)
    · have b1 : decide ((i : Int) < n) = false := by simp; omega
      obtain rfl : i = n.toNat := by omega
      ((repeat' (first
    | (show SQ _ _ _ _ _ _ _ _; first | apply sq_nil | (apply q_move; exact rfl; exact rfl) | (apply q_lss; iterate 3 exact rfl))
    | (show SQ _ _ _ _ _ _ _ _; (first | (apply q_ldap; exact rfl; exact rfl; exact (ty rfl); exact rfl; exact rfl; exact (by first | rfl | assumption | ((try simp only [Nat.zero_add]); refine List.getElem?_set_self ?_; (try simp only [List.length_set]); assumption)); exact rfl) | (apply q_store; exact rfl; exact rfl; exact (ty rfl); exact rfl; exact (by first | rfl | assumption | ((try simp only [Nat.zero_add]); refine List.getElem?_set_self ?_; (try simp only [List.length_set]); assumption)); iterate 3 exact rfl)); (try simp only [put, rowsOf, plR, selE, ovr, setH, del, cellsA, splice, isV, spq, if_true, if_false]))
    | (show AW _ _ _ _ _ _ _ _; first | refine aw_region ?_ | (refine aw_seqk ?_; intro K hK) | (apply aw_cond_f; exact rfl; exact (by assumption)) | refine aw_ret ?_ | refine aw_exit ?_)
    | refine thn_n ?_
    | (refine hK _ _ _ ?_; clear hK K)
    | refine thn_e ?_
    | refine inb_same ?_
    | (clear hK K; refine hK _ _ _ ?_; clear hK K))); all_goals (repeat (clear hK K)))
      all_goals exact finc (fun z => if z = 1 then 2 else z) (.r1 _ _ (.agg _ _ _ _ _ rfl (.inr ⟨_, _, _, _, _, rfl, rfl, rfl, rfl⟩) (ty rfl) rfl (Nat.le_of_ble_eq_true rfl))) rfl (fun z hz => by simp at hz; simp; omega) ⟨rfl, rfl, trivial⟩ rfl
end Go.Proofs.Ytglfcaioapdiaaa.Bk

namespace Go.Proofs.Ytglfcaioapdiaaa.Bk
open Go Go.RowKit Go.Proofs.Ytglfcaioapdiaaa.Aw Go.Proofs.Ytglfcaioapdiaaa.Sr
set_option linter.unusedSimpArgs false
set_option linter.unusedVariables false
attribute [local irreducible] AW SQ Step RO RC DE Thn InB
theorem am_mem {s : Sr} {ws : List Int} (h : 1 ≤ ws.length) : (am ws s).1 ∈ ws := by
  have hp := pk_bd s ws.length (by omega)
  have hl : (pk s ws.length).1.toNat < ws.length := by omega
  unfold am
  dsimp only
  rw [List.getD_eq_getElem?_getD, List.getElem?_eq_getElem hl]
  exact List.getElem_mem _
structure Bd (s : Sr) (k n : Int) (ls : List Ln) (s' : Sr) : Prop where
  nb : n ≤ 100
  le : ls.length ≤ 32
  ok : s'.ok (k + 2100)
  rc : ∀ j id, RC Try.prog 113 [.ptr id 0 0] [(id, ⟨133, 3, false, [srR s]⟩)] j (.agg [.v (.int .i64 n), .sl j 0 ls.length]) [(id, some ⟨133, 3, false, [srR s']⟩), (j, some ⟨56, 4, true, ls.map lnL⟩)] (j + 1)
theorem l25Draw_ex {s : Sr} {k : Int} (h : s.ok k) (hk : k ≤ 90000) : ∃ n ls s', Bd s k n ls s' := by
  have h1 := fun id => l25DrawOk_rc id s (h.mono (by omega))
  have hD := drD_ok h
  have hn := nD_in s
  generalize nD s = n at *
  generalize drD s = Z at *
  obtain ⟨s1, ls⟩ := Z
  have hL := hD.le
  have hok := hD.ok
  dsimp only at h1 hL hok
  have h2 := fun id => pick_rc id s1 18 (hok.mono (by omega)) (by omega)
  have hok2 := pk_ok 18 hok
  have bd2 := pk_bd s1 18 (by omega)
  generalize pk s1 18 = P at *
  obtain ⟨p, s2⟩ := P
  dsimp only at h2 hok2 bd2
  have hml : (ls.map lnL).length = ls.length := List.length_map _
  have plain : (∀ j id, RC Try.prog 113 [.ptr id 0 0] [(id, ⟨133, 3, false, [srR s]⟩)] j (.agg [.v (.int .i64 n), .sl j 0 ls.length]) [(id, some ⟨133, 3, false, [srR s2]⟩), (j, some ⟨56, 4, true, ls.map lnL⟩)] (j + 1)) → ∃ n ls s', Bd s k n ls s' := fun hh => ⟨n, ls, s2, by omega, hL, hok2.mono (by omega), hh⟩
  by_cases c0 : p = 0
  · subst c0
    have b0 : ((0 : Int) == 0) = true := rfl
    have a1 := among_rc 0 4 s2 [0, 13, IntKind.i64.wrap (n - 1)] (by decide) (hok2.mono (by omega)) (by simp) (by simp)
    have hok3 := am_ok [0, 13, IntKind.i64.wrap (n - 1)] hok2
    have hm := am_mem (s := s2) (ws := [0, 13, IntKind.i64.wrap (n - 1)]) (by simp)
    have hwn : IntKind.i64.wrap (n - 1) = n - 1 := IntWalk.i64_in _ (by omega)
    generalize am [0, 13, IntKind.i64.wrap (n - 1)] s2 = A at *
    obtain ⟨v, s3⟩ := A
    dsimp only at a1 hok3 hm
    have hv : v ≤ 100 := by
      simp only [List.mem_cons, List.not_mem_nil, or_false, hwn] at hm
      omega
    simp only [nuR, List.map_cons, List.map_nil, List.length_cons, List.length_nil] at a1
    refine ⟨v, ls, s3, hv, hL, hok3.mono (by omega), fun j id => ?_⟩
    refine RC.ofc [id] 1 [.ptr 0 0 0] [(0, ⟨133, 3, false, [srR s]⟩)] (.agg [.v (.int .i64 v), .sl 1 0 ls.length]) [(0, some ⟨133, 3, false, [srR s3]⟩), (1, some ⟨56, 4, true, ls.map lnL⟩)] Try.func113 Try.ntmps113 rfl (goFn_of Try.func113 rfl (by kernel_rfl)) rfl rfl rfl rfl rfl rfl rfl rfl (by simp_all) rfl ?_
    ((repeat' (first
    | (show SQ _ _ _ _ _ _ _ _; first | apply sq_nil | (apply q_move; exact rfl; exact rfl) | (apply q_assign; exact rfl; exact rfl) | (apply q_fieldAddr; exact rfl; exact rfl; exact (ty rfl); iterate 4 exact rfl) | (apply q_lenl; exact rfl; exact rfl; exact (ty rfl); exact rfl) | (apply q_sub; iterate 3 exact rfl) | (apply q_eql; iterate 3 exact rfl) | (apply q_ld1p; exact rfl; exact rfl; exact (ty rfl); exact rfl; exact rfl; exact (by first | rfl | assumption | ((try simp only [Nat.zero_add]); refine List.getElem?_set_self ?_; (try simp only [List.length_set]); assumption)); exact rfl))
    | (show SQ _ _ _ _ _ _ _ _; (first | (apply q_ldap; exact rfl; exact rfl; exact (ty rfl); exact rfl; exact rfl; exact (by first | rfl | assumption | ((try simp only [Nat.zero_add]); refine List.getElem?_set_self ?_; (try simp only [List.length_set]); assumption)); exact rfl) | (apply q_alloc; exact rfl; exact (ty rfl); exact rfl; exact rfl) | (apply q_store; exact rfl; exact rfl; exact (ty rfl); exact rfl; exact (by first | rfl | assumption | ((try simp only [Nat.zero_add]); refine List.getElem?_set_self ?_; (try simp only [List.length_set]); assumption)); iterate 3 exact rfl) | (apply q_buildn; exact rfl; exact (ty rfl); iterate 7 exact rfl) | (apply q_callC; (iterate 3 exact rfl); exact h1 0 _; (focus ((repeat (first | exact trivial | refine ⟨by first | exact rfl | assumption, ?_⟩)); done)); skip) | (apply q_callC; (iterate 3 exact rfl); exact h2 0 _; (focus ((repeat (first | exact trivial | refine ⟨by first | exact rfl | assumption, ?_⟩)); done)); skip) | (apply q_callC; (iterate 3 exact rfl); exact a1 _; (focus ((repeat (first | exact trivial | refine ⟨by first | exact rfl | assumption, ?_⟩)); done)); skip)); (try simp only [put, rowsOf, plR, selE, ovr, setH, del, cellsA, splice, isV, spq, if_true, if_false]))
    | (show AW _ _ _ _ _ _ _ _; first | refine aw_region ?_ | (refine aw_seqk ?_; intro K hK) | refine aw_block ?_ | (apply aw_cond_t; exact rfl; exact rfl) | refine aw_ret ?_)
    | refine thn_n ?_
    | (refine hK _ _ _ ?_; clear hK K)
    | refine inb_n ?_)); all_goals (repeat (clear hK K)))
    exact finc (fun z => if z = 1 then 2 else z) (.r1 _ _ (.agg _ _ _ _ _ rfl (.inr ⟨_, _, _, _, _, rfl, rfl, rfl, rfl⟩) (ty rfl) rfl (Nat.le_of_ble_eq_true rfl))) rfl (fun z hz => by simp at hz; simp; omega) ⟨rfl, rfl, trivial⟩ rfl
  by_cases c1 : p = 1
  · subst c1
    have b0 : ((1 : Int) == 0) = false := rfl
    have b1 : ((1 : Int) == 1) = true := rfl
    by_cases d : 0 < ls.length
    · have b5 : decide ((0 : Int) < (ls.length : Int)) = true := by simpa using d
      have g2 := fun id => pick_rc id s2 (ls.length : Int) (hok2.mono (by omega)) (by omega)
      have hok3 := pk_ok (ls.length : Int) hok2
      have bd3 := pk_bd s2 (ls.length : Int) (by omega)
      generalize pk s2 (ls.length : Int) = Q at *
      obtain ⟨q, s3⟩ := Q
      dsimp only at g2 hok3 bd3
      obtain ⟨q, rfl⟩ := Int.eq_ofNat_of_zero_le bd3.1
      have hq : q < ls.length := by omega
      have hrow2 : (ls.map lnL)[0 + ((q : Int)).toNat]? = some (lnL ls[q]) := by simp [hq]
      have hrow3 : (ls.map lnL)[((q : Int)).toNat]? = some (lnL ls[q]) := by simp [hq]
      rw [lnL_eq] at hrow2 hrow3
      have hlen2 : ((q : Int)).toNat < (ls.map lnL).length := by simpa using hq
      have a1 := among_rc 0 4 s3 [-1, 1000000, 1000001] (by decide) (hok3.mono (by omega)) (by simp) (by simp)
      have hok4 := am_ok [-1, 1000000, 1000001] hok3
      generalize am [-1, 1000000, 1000001] s3 = A at *
      obtain ⟨v, s4⟩ := A
      dsimp only at a1 hok4
      simp only [nuR, List.map_cons, List.map_nil, List.length_cons, List.length_nil] at a1
      have hset : (ls.set q ⟨ls[q].a, ls[q].b, v, ls[q].c⟩).map lnL = (ls.map lnL).set q (lnL ⟨ls[q].a, ls[q].b, v, ls[q].c⟩) := List.map_set
      rw [lnL_eq] at hset
      dsimp only at hset
      refine ⟨n, ls.set q ⟨ls[q].a, ls[q].b, v, ls[q].c⟩, s4, by omega, by simpa using hL, hok4.mono (by omega), fun j id => ?_⟩
      rw [List.length_set, hset]
      refine RC.ofc [id] 1 [.ptr 0 0 0] [(0, ⟨133, 3, false, [srR s]⟩)] (.agg [.v (.int .i64 n), .sl 1 0 ls.length]) [(0, some ⟨133, 3, false, [srR s4]⟩), (1, some ⟨56, 4, true, (ls.map lnL).set q [.v (.int .i64 ls[q].a), .v (.int .i64 ls[q].b), .v (.int .i64 v), .v (.int .i64 ls[q].c)]⟩)] Try.func113 Try.ntmps113 rfl (goFn_of Try.func113 rfl (by kernel_rfl)) rfl rfl rfl rfl rfl rfl rfl rfl (by simp_all) rfl ?_
      ((repeat' (first
    | (show SQ _ _ _ _ _ _ _ _; first | apply sq_nil | (apply q_move; exact rfl; exact rfl) | (apply q_assign; exact rfl; exact rfl) | (apply q_fieldAddr; exact rfl; exact rfl; exact (ty rfl); iterate 4 exact rfl) | (apply q_lenl; exact rfl; exact rfl; exact (ty rfl); exact rfl) | (apply q_eql; iterate 3 exact rfl) | (apply q_gtr; iterate 3 exact rfl) | (apply q_ld1p; exact rfl; exact rfl; exact (ty rfl); exact rfl; exact rfl; exact (by first | rfl | assumption | ((try simp only [Nat.zero_add]); refine List.getElem?_set_self ?_; (try simp only [List.length_set]); assumption)); exact rfl))
    | (show SQ _ _ _ _ _ _ _ _; (first | (apply q_ldap; exact rfl; exact rfl; exact (ty rfl); exact rfl; exact rfl; exact (by first | rfl | assumption | ((try simp only [Nat.zero_add]); refine List.getElem?_set_self ?_; (try simp only [List.length_set]); assumption)); exact rfl) | (apply q_alloc; exact rfl; exact (ty rfl); exact rfl; exact rfl) | (apply q_store; exact rfl; exact rfl; exact (ty rfl); exact rfl; exact (by first | rfl | assumption | ((try simp only [Nat.zero_add]); refine List.getElem?_set_self ?_; (try simp only [List.length_set]); assumption)); iterate 3 exact rfl) | (apply q_callC; (iterate 3 exact rfl); exact h1 0 _; (focus ((repeat (first | exact trivial | refine ⟨by first | exact rfl | assumption, ?_⟩)); done)); skip) | (apply q_callC; (iterate 3 exact rfl); exact h2 0 _; (focus ((repeat (first | exact trivial | refine ⟨by first | exact rfl | assumption, ?_⟩)); done)); skip) | (apply q_callC; (iterate 3 exact rfl); exact g2 0 _; (focus ((repeat (first | exact trivial | refine ⟨by first | exact rfl | assumption, ?_⟩)); done)); skip)); (try simp only [put, rowsOf, plR, selE, ovr, setH, del, cellsA, splice, isV, spq, if_true, if_false]))
    | (show DE _ _ _ _ _ _ _ _ _ _ _ _; first | (apply e_move; iterate 3 exact rfl) | (apply e_fieldAddr; exact rfl; exact rfl; exact (ty rfl); iterate 5 exact rfl) | (apply e_ixl; (iterate 3 exact rfl); exact (ty rfl); (iterate 3 exact rfl); exact (by first | omega | (simp; done) | (simp; omega)); exact (by first | omega | (simp; done) | (simp; omega)); exact rfl))
    | (show DE _ _ _ _ _ _ _ _ _ _ _ _; (first | (apply dr_nil; (focus ((repeat (first | exact trivial | exact Or.inr rfl | exact Or.inl (by kernel_rfl) | apply And.intro)); done))) | (apply e_rd1; exact rfl; exact rfl; exact (ty rfl); exact rfl; exact rfl; exact (by first | rfl | assumption | ((try simp only [Nat.zero_add]); refine List.getElem?_set_self ?_; (try simp only [List.length_set]); assumption)); iterate 3 exact rfl) | (apply e_store; exact rfl; exact rfl; exact (ty rfl); exact rfl; exact (by first | rfl | assumption | ((try simp only [Nat.zero_add]); refine List.getElem?_set_self ?_; (try simp only [List.length_set]); assumption)); iterate 4 exact rfl) | (apply e_buildn; exact rfl; exact (ty rfl); iterate 8 exact rfl) | (apply e_callC; (iterate 3 exact rfl); exact a1 _; (focus ((repeat (first | exact trivial | refine ⟨by first | exact rfl | assumption, ?_⟩)); done)); exact rfl; skip)); (try simp only [put, rowsOf, plR, selE, ovr, setH, del, cellsA, splice, isV, spq, if_true, if_false]))
    | (show AW _ _ _ _ _ _ _ _; first | refine aw_region ?_ | (refine aw_seqk ?_; intro K hK) | refine aw_block ?_ | (apply aw_cond_t; exact rfl; exact rfl) | (apply aw_cond_f; exact rfl; exact rfl) | (apply aw_cond_t; exact rfl; exact (by assumption)) | refine aw_ret ?_ | refine aw_drawE (id := 9) [0, 1, 0, 0, 0, 24, 63, 127, 255] [0, 0, 0, 0, 1, 2, 1, 0, 2, 1, 3] mixed (by kernel_rfl) ?_)
    | refine thn_n ?_
    | (refine hK _ _ _ ?_; clear hK K)
    | refine inb_n ?_)); all_goals (repeat (clear hK K)))
      exact finc (fun z => if z = 1 then 2 else z) (.r1 _ _ (.agg _ _ _ _ _ rfl (.inr ⟨_, _, _, _, _, rfl, rfl, rfl, rfl⟩) (ty rfl) rfl (Nat.le_of_ble_eq_true rfl))) rfl (fun z hz => by simp at hz; simp; omega) ⟨rfl, rfl, trivial⟩ rfl
    · have b5 : decide ((0 : Int) < (ls.length : Int)) = false := by simpa using d
      refine plain fun j id => ?_
      refine RC.ofc [id] 1 [.ptr 0 0 0] [(0, ⟨133, 3, false, [srR s]⟩)] (.agg [.v (.int .i64 n), .sl 1 0 ls.length]) [(0, some ⟨133, 3, false, [srR s2]⟩), (1, some ⟨56, 4, true, ls.map lnL⟩)] Try.func113 Try.ntmps113 rfl (goFn_of Try.func113 rfl (by kernel_rfl)) rfl rfl rfl rfl rfl rfl rfl rfl (by simp_all) rfl ?_
      ((repeat' (first
    | (show SQ _ _ _ _ _ _ _ _; first | apply sq_nil | (apply q_move; exact rfl; exact rfl) | (apply q_assign; exact rfl; exact rfl) | (apply q_fieldAddr; exact rfl; exact rfl; exact (ty rfl); iterate 4 exact rfl) | (apply q_lenl; exact rfl; exact rfl; exact (ty rfl); exact rfl) | (apply q_eql; iterate 3 exact rfl) | (apply q_gtr; iterate 3 exact rfl) | (apply q_ld1p; exact rfl; exact rfl; exact (ty rfl); exact rfl; exact rfl; exact (by first | rfl | assumption | ((try simp only [Nat.zero_add]); refine List.getElem?_set_self ?_; (try simp only [List.length_set]); assumption)); exact rfl))
    | (show SQ _ _ _ _ _ _ _ _; (first | (apply q_ldap; exact rfl; exact rfl; exact (ty rfl); exact rfl; exact rfl; exact (by first | rfl | assumption | ((try simp only [Nat.zero_add]); refine List.getElem?_set_self ?_; (try simp only [List.length_set]); assumption)); exact rfl) | (apply q_alloc; exact rfl; exact (ty rfl); exact rfl; exact rfl) | (apply q_store; exact rfl; exact rfl; exact (ty rfl); exact rfl; exact (by first | rfl | assumption | ((try simp only [Nat.zero_add]); refine List.getElem?_set_self ?_; (try simp only [List.length_set]); assumption)); iterate 3 exact rfl) | (apply q_callC; (iterate 3 exact rfl); exact h1 0 _; (focus ((repeat (first | exact trivial | refine ⟨by first | exact rfl | assumption, ?_⟩)); done)); skip) | (apply q_callC; (iterate 3 exact rfl); exact h2 0 _; (focus ((repeat (first | exact trivial | refine ⟨by first | exact rfl | assumption, ?_⟩)); done)); skip)); (try simp only [put, rowsOf, plR, selE, ovr, setH, del, cellsA, splice, isV, spq, if_true, if_false]))
    | (show AW _ _ _ _ _ _ _ _; first | refine aw_region ?_ | (refine aw_seqk ?_; intro K hK) | refine aw_block ?_ | (apply aw_cond_t; exact rfl; exact rfl) | (apply aw_cond_f; exact rfl; exact rfl) | (apply aw_cond_f; exact rfl; exact (by assumption)) | refine aw_ret ?_ | refine aw_skip ?_)
    | refine thn_n ?_
    | (refine hK _ _ _ ?_; clear hK K)
    | refine inb_n ?_)); all_goals (repeat (clear hK K)))
      exact finc (fun z => if z = 1 then 2 else z) (.r1 _ _ (.agg _ _ _ _ _ rfl (.inr ⟨_, _, _, _, _, rfl, rfl, rfl, rfl⟩) (ty rfl) rfl (Nat.le_of_ble_eq_true rfl))) rfl (fun z hz => by simp at hz; simp; omega) ⟨rfl, rfl, trivial⟩ rfl
  by_cases c2 : p = 2
  · subst c2
    have b0 : ((2 : Int) == 0) = false := rfl
    have b1 : ((2 : Int) == 1) = false := rfl
    have b2 : ((2 : Int) == 2) = true := rfl
    by_cases d : 0 < ls.length
    · have b5 : decide ((0 : Int) < (ls.length : Int)) = true := by simpa using d
      have g2 := fun id => pick_rc id s2 (ls.length : Int) (hok2.mono (by omega)) (by omega)
      have hok3 := pk_ok (ls.length : Int) hok2
      have bd3 := pk_bd s2 (ls.length : Int) (by omega)
      generalize pk s2 (ls.length : Int) = Q at *
      obtain ⟨q, s3⟩ := Q
      dsimp only at g2 hok3 bd3
      obtain ⟨q, rfl⟩ := Int.eq_ofNat_of_zero_le bd3.1
      have hq : q < ls.length := by omega
      have hrow2 : (ls.map lnL)[0 + ((q : Int)).toNat]? = some (lnL ls[q]) := by simp [hq]
      have hrow3 : (ls.map lnL)[((q : Int)).toNat]? = some (lnL ls[q]) := by simp [hq]
      rw [lnL_eq] at hrow2 hrow3
      have hlen2 : ((q : Int)).toNat < (ls.map lnL).length := by simpa using hq
      have a1 := among_rc 0 4 s3 [0, 1000000, 1000001] (by decide) (hok3.mono (by omega)) (by simp) (by simp)
      have hok4 := am_ok [0, 1000000, 1000001] hok3
      generalize am [0, 1000000, 1000001] s3 = A at *
      obtain ⟨v, s4⟩ := A
      dsimp only at a1 hok4
      simp only [nuR, List.map_cons, List.map_nil, List.length_cons, List.length_nil] at a1
      have hset : (ls.set q ⟨ls[q].a, ls[q].b, ls[q].o, v⟩).map lnL = (ls.map lnL).set q (lnL ⟨ls[q].a, ls[q].b, ls[q].o, v⟩) := List.map_set
      rw [lnL_eq] at hset
      dsimp only at hset
      refine ⟨n, ls.set q ⟨ls[q].a, ls[q].b, ls[q].o, v⟩, s4, by omega, by simpa using hL, hok4.mono (by omega), fun j id => ?_⟩
      rw [List.length_set, hset]
      refine RC.ofc [id] 1 [.ptr 0 0 0] [(0, ⟨133, 3, false, [srR s]⟩)] (.agg [.v (.int .i64 n), .sl 1 0 ls.length]) [(0, some ⟨133, 3, false, [srR s4]⟩), (1, some ⟨56, 4, true, (ls.map lnL).set q [.v (.int .i64 ls[q].a), .v (.int .i64 ls[q].b), .v (.int .i64 ls[q].o), .v (.int .i64 v)]⟩)] Try.func113 Try.ntmps113 rfl (goFn_of Try.func113 rfl (by kernel_rfl)) rfl rfl rfl rfl rfl rfl rfl rfl (by simp_all) rfl ?_
      ((repeat' (first
    | (show SQ _ _ _ _ _ _ _ _; first | apply sq_nil | (apply q_move; exact rfl; exact rfl) | (apply q_assign; exact rfl; exact rfl) | (apply q_fieldAddr; exact rfl; exact rfl; exact (ty rfl); iterate 4 exact rfl) | (apply q_lenl; exact rfl; exact rfl; exact (ty rfl); exact rfl) | (apply q_eql; iterate 3 exact rfl) | (apply q_gtr; iterate 3 exact rfl) | (apply q_ld1p; exact rfl; exact rfl; exact (ty rfl); exact rfl; exact rfl; exact (by first | rfl | assumption | ((try simp only [Nat.zero_add]); refine List.getElem?_set_self ?_; (try simp only [List.length_set]); assumption)); exact rfl))
    | (show SQ _ _ _ _ _ _ _ _; (first | (apply q_ldap; exact rfl; exact rfl; exact (ty rfl); exact rfl; exact rfl; exact (by first | rfl | assumption | ((try simp only [Nat.zero_add]); refine List.getElem?_set_self ?_; (try simp only [List.length_set]); assumption)); exact rfl) | (apply q_alloc; exact rfl; exact (ty rfl); exact rfl; exact rfl) | (apply q_store; exact rfl; exact rfl; exact (ty rfl); exact rfl; exact (by first | rfl | assumption | ((try simp only [Nat.zero_add]); refine List.getElem?_set_self ?_; (try simp only [List.length_set]); assumption)); iterate 3 exact rfl) | (apply q_callC; (iterate 3 exact rfl); exact h1 0 _; (focus ((repeat (first | exact trivial | refine ⟨by first | exact rfl | assumption, ?_⟩)); done)); skip) | (apply q_callC; (iterate 3 exact rfl); exact h2 0 _; (focus ((repeat (first | exact trivial | refine ⟨by first | exact rfl | assumption, ?_⟩)); done)); skip) | (apply q_callC; (iterate 3 exact rfl); exact g2 0 _; (focus ((repeat (first | exact trivial | refine ⟨by first | exact rfl | assumption, ?_⟩)); done)); skip)); (try simp only [put, rowsOf, plR, selE, ovr, setH, del, cellsA, splice, isV, spq, if_true, if_false]))
    | (show DE _ _ _ _ _ _ _ _ _ _ _ _; first | (apply e_move; iterate 3 exact rfl) | (apply e_fieldAddr; exact rfl; exact rfl; exact (ty rfl); iterate 5 exact rfl) | (apply e_ixl; (iterate 3 exact rfl); exact (ty rfl); (iterate 3 exact rfl); exact (by first | omega | (simp; done) | (simp; omega)); exact (by first | omega | (simp; done) | (simp; omega)); exact rfl))
    | (show DE _ _ _ _ _ _ _ _ _ _ _ _; (first | (apply dr_nil; (focus ((repeat (first | exact trivial | exact Or.inr rfl | exact Or.inl (by kernel_rfl) | apply And.intro)); done))) | (apply e_rd1; exact rfl; exact rfl; exact (ty rfl); exact rfl; exact rfl; exact (by first | rfl | assumption | ((try simp only [Nat.zero_add]); refine List.getElem?_set_self ?_; (try simp only [List.length_set]); assumption)); iterate 3 exact rfl) | (apply e_store; exact rfl; exact rfl; exact (ty rfl); exact rfl; exact (by first | rfl | assumption | ((try simp only [Nat.zero_add]); refine List.getElem?_set_self ?_; (try simp only [List.length_set]); assumption)); iterate 4 exact rfl) | (apply e_buildn; exact rfl; exact (ty rfl); iterate 8 exact rfl) | (apply e_callC; (iterate 3 exact rfl); exact a1 _; (focus ((repeat (first | exact trivial | refine ⟨by first | exact rfl | assumption, ?_⟩)); done)); exact rfl; skip)); (try simp only [put, rowsOf, plR, selE, ovr, setH, del, cellsA, splice, isV, spq, if_true, if_false]))
    | (show AW _ _ _ _ _ _ _ _; first | refine aw_region ?_ | (refine aw_seqk ?_; intro K hK) | refine aw_block ?_ | (apply aw_cond_t; exact rfl; exact rfl) | (apply aw_cond_f; exact rfl; exact rfl) | (apply aw_cond_t; exact rfl; exact (by assumption)) | refine aw_ret ?_ | refine aw_drawE (id := 13) [0, 1, 0, 0, 0, 24, 63, 127, 255] [0, 0, 0, 0, 1, 2, 1, 0, 2, 1, 3] mixed (by kernel_rfl) ?_)
    | refine thn_n ?_
    | (refine hK _ _ _ ?_; clear hK K)
    | refine inb_n ?_)); all_goals (repeat (clear hK K)))
      exact finc (fun z => if z = 1 then 2 else z) (.r1 _ _ (.agg _ _ _ _ _ rfl (.inr ⟨_, _, _, _, _, rfl, rfl, rfl, rfl⟩) (ty rfl) rfl (Nat.le_of_ble_eq_true rfl))) rfl (fun z hz => by simp at hz; simp; omega) ⟨rfl, rfl, trivial⟩ rfl
    · have b5 : decide ((0 : Int) < (ls.length : Int)) = false := by simpa using d
      refine plain fun j id => ?_
      refine RC.ofc [id] 1 [.ptr 0 0 0] [(0, ⟨133, 3, false, [srR s]⟩)] (.agg [.v (.int .i64 n), .sl 1 0 ls.length]) [(0, some ⟨133, 3, false, [srR s2]⟩), (1, some ⟨56, 4, true, ls.map lnL⟩)] Try.func113 Try.ntmps113 rfl (goFn_of Try.func113 rfl (by kernel_rfl)) rfl rfl rfl rfl rfl rfl rfl rfl (by simp_all) rfl ?_
      ((repeat' (first
    | (show SQ _ _ _ _ _ _ _ _; first | apply sq_nil | (apply q_move; exact rfl; exact rfl) | (apply q_assign; exact rfl; exact rfl) | (apply q_fieldAddr; exact rfl; exact rfl; exact (ty rfl); iterate 4 exact rfl) | (apply q_lenl; exact rfl; exact rfl; exact (ty rfl); exact rfl) | (apply q_eql; iterate 3 exact rfl) | (apply q_gtr; iterate 3 exact rfl) | (apply q_ld1p; exact rfl; exact rfl; exact (ty rfl); exact rfl; exact rfl; exact (by first | rfl | assumption | ((try simp only [Nat.zero_add]); refine List.getElem?_set_self ?_; (try simp only [List.length_set]); assumption)); exact rfl))
    | (show SQ _ _ _ _ _ _ _ _; (first | (apply q_ldap; exact rfl; exact rfl; exact (ty rfl); exact rfl; exact rfl; exact (by first | rfl | assumption | ((try simp only [Nat.zero_add]); refine List.getElem?_set_self ?_; (try simp only [List.length_set]); assumption)); exact rfl) | (apply q_alloc; exact rfl; exact (ty rfl); exact rfl; exact rfl) | (apply q_store; exact rfl; exact rfl; exact (ty rfl); exact rfl; exact (by first | rfl | assumption | ((try simp only [Nat.zero_add]); refine List.getElem?_set_self ?_; (try simp only [List.length_set]); assumption)); iterate 3 exact rfl) | (apply q_callC; (iterate 3 exact rfl); exact h1 0 _; (focus ((repeat (first | exact trivial | refine ⟨by first | exact rfl | assumption, ?_⟩)); done)); skip) | (apply q_callC; (iterate 3 exact rfl); exact h2 0 _; (focus ((repeat (first | exact trivial | refine ⟨by first | exact rfl | assumption, ?_⟩)); done)); skip)); (try simp only [put, rowsOf, plR, selE, ovr, setH, del, cellsA, splice, isV, spq, if_true, if_false]))
    | (show AW _ _ _ _ _ _ _ _; first | refine aw_region ?_ | (refine aw_seqk ?_; intro K hK) | refine aw_block ?_ | (apply aw_cond_t; exact rfl; exact rfl) | (apply aw_cond_f; exact rfl; exact rfl) | (apply aw_cond_f; exact rfl; exact (by assumption)) | refine aw_ret ?_ | refine aw_skip ?_)
    | refine thn_n ?_
    | (refine hK _ _ _ ?_; clear hK K)
    | refine inb_n ?_)); all_goals (repeat (clear hK K)))
      exact finc (fun z => if z = 1 then 2 else z) (.r1 _ _ (.agg _ _ _ _ _ rfl (.inr ⟨_, _, _, _, _, rfl, rfl, rfl, rfl⟩) (ty rfl) rfl (Nat.le_of_ble_eq_true rfl))) rfl (fun z hz => by simp at hz; simp; omega) ⟨rfl, rfl, trivial⟩ rfl
  have plain2 : (p = 3 → ls.length ≤ 1) → ∃ n ls s', Bd s k n ls s' := fun hh => by
    have b0 : (p == 0) = false := by simpa using c0
    have b1 : (p == 1) = false := by simpa using c1
    have b2 : (p == 2) = false := by simpa using c2
    refine plain fun j id => ?_
    refine RC.ofc [id] 1 [.ptr 0 0 0] [(0, ⟨133, 3, false, [srR s]⟩)] (.agg [.v (.int .i64 n), .sl 1 0 ls.length]) [(0, some ⟨133, 3, false, [srR s2]⟩), (1, some ⟨56, 4, true, ls.map lnL⟩)] Try.func113 Try.ntmps113 rfl (goFn_of Try.func113 rfl (by kernel_rfl)) rfl rfl rfl rfl rfl rfl rfl rfl (by simp_all) rfl ?_
    by_cases c3 : p = 3
    · have b3 : (p == 3) = true := by simpa using c3
      have b5 : decide ((1 : Int) < (ls.length : Int)) = false := by have := hh c3; simp; omega
      ((repeat' (first
    | (show SQ _ _ _ _ _ _ _ _; first | apply sq_nil | (apply q_move; exact rfl; exact rfl) | (apply q_assign; exact rfl; exact rfl) | (apply q_fieldAddr; exact rfl; exact rfl; exact (ty rfl); iterate 4 exact rfl) | (apply q_lenl; exact rfl; exact rfl; exact (ty rfl); exact rfl) | (apply q_eql; iterate 3 exact rfl) | (apply q_gtr; iterate 3 exact rfl) | (apply q_ld1p; exact rfl; exact rfl; exact (ty rfl); exact rfl; exact rfl; exact (by first | rfl | assumption | ((try simp only [Nat.zero_add]); refine List.getElem?_set_self ?_; (try simp only [List.length_set]); assumption)); exact rfl))
    | (show SQ _ _ _ _ _ _ _ _; (first | (apply q_ldap; exact rfl; exact rfl; exact (ty rfl); exact rfl; exact rfl; exact (by first | rfl | assumption | ((try simp only [Nat.zero_add]); refine List.getElem?_set_self ?_; (try simp only [List.length_set]); assumption)); exact rfl) | (apply q_alloc; exact rfl; exact (ty rfl); exact rfl; exact rfl) | (apply q_store; exact rfl; exact rfl; exact (ty rfl); exact rfl; exact (by first | rfl | assumption | ((try simp only [Nat.zero_add]); refine List.getElem?_set_self ?_; (try simp only [List.length_set]); assumption)); iterate 3 exact rfl) | (apply q_callC; (iterate 3 exact rfl); exact h1 0 _; (focus ((repeat (first | exact trivial | refine ⟨by first | exact rfl | assumption, ?_⟩)); done)); skip) | (apply q_callC; (iterate 3 exact rfl); exact h2 0 _; (focus ((repeat (first | exact trivial | refine ⟨by first | exact rfl | assumption, ?_⟩)); done)); skip)); (try simp only [put, rowsOf, plR, selE, ovr, setH, del, cellsA, splice, isV, spq, if_true, if_false]))
    | (show AW _ _ _ _ _ _ _ _; first | refine aw_region ?_ | (refine aw_seqk ?_; intro K hK) | refine aw_block ?_ | (apply aw_cond_t; exact rfl; exact (by assumption)) | (apply aw_cond_f; exact rfl; exact (by assumption)) | refine aw_ret ?_ | refine aw_skip ?_)
    | refine thn_n ?_
    | (refine hK _ _ _ ?_; clear hK K)
    | refine inb_n ?_)); all_goals (repeat (clear hK K)))
      exact finc (fun z => if z = 1 then 2 else z) (.r1 _ _ (.agg _ _ _ _ _ rfl (.inr ⟨_, _, _, _, _, rfl, rfl, rfl, rfl⟩) (ty rfl) rfl (Nat.le_of_ble_eq_true rfl))) rfl (fun z hz => by simp at hz; simp; omega) ⟨rfl, rfl, trivial⟩ rfl
    · have b3 : (p == 3) = false := by simpa using c3
      ((repeat' (first
    | (show SQ _ _ _ _ _ _ _ _; first | apply sq_nil | (apply q_move; exact rfl; exact rfl) | (apply q_assign; exact rfl; exact rfl) | (apply q_fieldAddr; exact rfl; exact rfl; exact (ty rfl); iterate 4 exact rfl) | (apply q_lenl; exact rfl; exact rfl; exact (ty rfl); exact rfl) | (apply q_eql; iterate 3 exact rfl) | (apply q_ld1p; exact rfl; exact rfl; exact (ty rfl); exact rfl; exact rfl; exact (by first | rfl | assumption | ((try simp only [Nat.zero_add]); refine List.getElem?_set_self ?_; (try simp only [List.length_set]); assumption)); exact rfl))
    | (show SQ _ _ _ _ _ _ _ _; (first | (apply q_ldap; exact rfl; exact rfl; exact (ty rfl); exact rfl; exact rfl; exact (by first | rfl | assumption | ((try simp only [Nat.zero_add]); refine List.getElem?_set_self ?_; (try simp only [List.length_set]); assumption)); exact rfl) | (apply q_alloc; exact rfl; exact (ty rfl); exact rfl; exact rfl) | (apply q_store; exact rfl; exact rfl; exact (ty rfl); exact rfl; exact (by first | rfl | assumption | ((try simp only [Nat.zero_add]); refine List.getElem?_set_self ?_; (try simp only [List.length_set]); assumption)); iterate 3 exact rfl) | (apply q_callC; (iterate 3 exact rfl); exact h1 0 _; (focus ((repeat (first | exact trivial | refine ⟨by first | exact rfl | assumption, ?_⟩)); done)); skip) | (apply q_callC; (iterate 3 exact rfl); exact h2 0 _; (focus ((repeat (first | exact trivial | refine ⟨by first | exact rfl | assumption, ?_⟩)); done)); skip)); (try simp only [put, rowsOf, plR, selE, ovr, setH, del, cellsA, splice, isV, spq, if_true, if_false]))
    | (show AW _ _ _ _ _ _ _ _; first | refine aw_region ?_ | (refine aw_seqk ?_; intro K hK) | refine aw_block ?_ | (apply aw_cond_f; exact rfl; exact (by assumption)) | refine aw_ret ?_ | refine aw_skip ?_)
    | refine thn_n ?_
    | (refine hK _ _ _ ?_; clear hK K)
    | refine inb_n ?_)); all_goals (repeat (clear hK K)))
      exact finc (fun z => if z = 1 then 2 else z) (.r1 _ _ (.agg _ _ _ _ _ rfl (.inr ⟨_, _, _, _, _, rfl, rfl, rfl, rfl⟩) (ty rfl) rfl (Nat.le_of_ble_eq_true rfl))) rfl (fun z hz => by simp at hz; simp; omega) ⟨rfl, rfl, trivial⟩ rfl
  by_cases c3 : p = 3
  · by_cases d : 1 < ls.length
    · subst c3
      have b0 : ((3 : Int) == 0) = false := rfl
      have b1 : ((3 : Int) == 1) = false := rfl
      have b2 : ((3 : Int) == 2) = false := rfl
      have b3 : ((3 : Int) == 3) = true := rfl
      have b5 : decide ((1 : Int) < (ls.length : Int)) = true := by simp; omega
      have d0 : 0 < ls.length := by omega
      have hrow2 : (ls.map lnL)[0 + ((0 : Int)).toNat]? = some (lnL ls[0]) := by simp [d0]
      have hrow3 : (ls.map lnL)[0 + ((1 : Int)).toNat]? = some (lnL ls[1]) := by simp [d]
      rw [lnL_eq] at hrow2 hrow3
      have hlen2 : ((1 : Int)).toNat < (ls.map lnL).length := by simpa using d
      have hset : (ls.set 1 ls[0]).map lnL = (ls.map lnL).set 1 (lnL ls[0]) := List.map_set
      rw [lnL_eq] at hset
      refine ⟨n, ls.set 1 ls[0], s2, by omega, by simpa using hL, hok2.mono (by omega), fun j id => ?_⟩
      rw [List.length_set, hset]
      refine RC.ofc [id] 1 [.ptr 0 0 0] [(0, ⟨133, 3, false, [srR s]⟩)] (.agg [.v (.int .i64 n), .sl 1 0 ls.length]) [(0, some ⟨133, 3, false, [srR s2]⟩), (1, some ⟨56, 4, true, (ls.map lnL).set 1 [.v (.int .i64 ls[0].a), .v (.int .i64 ls[0].b), .v (.int .i64 ls[0].o), .v (.int .i64 ls[0].c)]⟩)] Try.func113 Try.ntmps113 rfl (goFn_of Try.func113 rfl (by kernel_rfl)) rfl rfl rfl rfl rfl rfl rfl rfl (by simp_all) rfl ?_
      ((repeat' (first
    | (show SQ _ _ _ _ _ _ _ _; first | apply sq_nil | (apply q_move; exact rfl; exact rfl) | (apply q_assign; exact rfl; exact rfl) | (apply q_fieldAddr; exact rfl; exact rfl; exact (ty rfl); iterate 4 exact rfl) | (apply q_lenl; exact rfl; exact rfl; exact (ty rfl); exact rfl) | (apply q_eql; iterate 3 exact rfl) | (apply q_gtr; iterate 3 exact rfl) | (apply q_ld1p; exact rfl; exact rfl; exact (ty rfl); exact rfl; exact rfl; exact (by first | rfl | assumption | ((try simp only [Nat.zero_add]); refine List.getElem?_set_self ?_; (try simp only [List.length_set]); assumption)); exact rfl))
    | (show SQ _ _ _ _ _ _ _ _; (first | (apply q_ldap; exact rfl; exact rfl; exact (ty rfl); exact rfl; exact rfl; exact (by first | rfl | assumption | ((try simp only [Nat.zero_add]); refine List.getElem?_set_self ?_; (try simp only [List.length_set]); assumption)); exact rfl) | (apply q_alloc; exact rfl; exact (ty rfl); exact rfl; exact rfl) | (apply q_store; exact rfl; exact rfl; exact (ty rfl); exact rfl; exact (by first | rfl | assumption | ((try simp only [Nat.zero_add]); refine List.getElem?_set_self ?_; (try simp only [List.length_set]); assumption)); iterate 3 exact rfl) | (apply q_callC; (iterate 3 exact rfl); exact h1 0 _; (focus ((repeat (first | exact trivial | refine ⟨by first | exact rfl | assumption, ?_⟩)); done)); skip) | (apply q_callC; (iterate 3 exact rfl); exact h2 0 _; (focus ((repeat (first | exact trivial | refine ⟨by first | exact rfl | assumption, ?_⟩)); done)); skip)); (try simp only [put, rowsOf, plR, selE, ovr, setH, del, cellsA, splice, isV, spq, if_true, if_false]))
    | (show DE _ _ _ _ _ _ _ _ _ _ _ _; first | (apply e_fieldAddr; exact rfl; exact rfl; exact (ty rfl); iterate 5 exact rfl) | (apply e_ixl; (iterate 3 exact rfl); exact (ty rfl); (iterate 3 exact rfl); exact (by first | omega | (simp; done) | (simp; omega)); exact (by first | omega | (simp; done) | (simp; omega)); exact rfl) | (apply e_ld1p; exact rfl; exact rfl; exact (ty rfl); exact rfl; exact rfl; exact (by first | rfl | assumption | ((try simp only [Nat.zero_add]); refine List.getElem?_set_self ?_; (try simp only [List.length_set]); assumption)); exact rfl; exact rfl))
    | (show DE _ _ _ _ _ _ _ _ _ _ _ _; (first | (apply dr_nil; exact trivial) | (apply e_ldap; exact rfl; exact rfl; exact (ty rfl); exact rfl; exact rfl; exact (by first | rfl | assumption | ((try simp only [Nat.zero_add]); refine List.getElem?_set_self ?_; (try simp only [List.length_set]); assumption)); exact rfl; exact rfl) | (apply e_store; exact rfl; exact rfl; exact (ty rfl); exact rfl; exact (by first | rfl | assumption | ((try simp only [Nat.zero_add]); refine List.getElem?_set_self ?_; (try simp only [List.length_set]); assumption)); iterate 4 exact rfl)); (try simp only [put, rowsOf, plR, selE, ovr, setH, del, cellsA, splice, isV, spq, if_true, if_false]))
    | (show AW _ _ _ _ _ _ _ _; first | refine aw_region ?_ | (refine aw_seqk ?_; intro K hK) | refine aw_block ?_ | (apply aw_cond_t; exact rfl; exact rfl) | (apply aw_cond_f; exact rfl; exact rfl) | (apply aw_cond_t; exact rfl; exact (by assumption)) | refine aw_ret ?_ | refine aw_drawE (id := 16) [0, 1, 0, 4, 12, 28, 63, 127] [0, 1, 0, 1, 1, 1, 1, 2] mixed (by kernel_rfl) ?_)
    | refine thn_n ?_
    | (refine hK _ _ _ ?_; clear hK K)
    | refine inb_n ?_)); all_goals (repeat (clear hK K)))
      exact finc (fun z => if z = 1 then 2 else z) (.r1 _ _ (.agg _ _ _ _ _ rfl (.inr ⟨_, _, _, _, _, rfl, rfl, rfl, rfl⟩) (ty rfl) rfl (Nat.le_of_ble_eq_true rfl))) rfl (fun z hz => by simp at hz; simp; omega) ⟨rfl, rfl, trivial⟩ rfl
    · exact plain2 fun _ => by omega
  · exact plain2 fun h => absurd h c3
set_option maxHeartbeats 4000000 in
theorem l00Max_ro (a b : Int) (k : Nat) : RO Try.prog 83 [.v (.int .i64 a), .v (.int .i64 b)] k (.v (.int .i64 (if a < b then b else a))) [] k := by
  refine RO.ofv' Try.func83 Try.ntmps83 rfl (goFn_of Try.func83 rfl (by kernel_rfl)) rfl rfl ?_
  ((repeat' (first
    | (show SQ _ _ _ _ _ _ _ _; first | apply sq_nil | (apply q_move; exact rfl; exact rfl) | (apply q_assign; exact rfl; exact rfl) | (apply q_gtr; iterate 3 exact rfl))
    | (show AW _ _ _ _ _ _ _ _; first | refine aw_region ?_ | (refine aw_seqk ?_; intro K hK) | refine aw_ret ?_ | refine aw_skip ?_ | (apply aw_ite; exact rfl; all_goals intro h))
    | refine thn_n ?_
    | (refine hK _ _ _ ?_; clear hK K)
    | refine thn_r ?_)); all_goals (repeat (clear hK K)))
  all_goals refine fin_r (fin_i rfl ?_)
  all_goals simp_all
  all_goals (intros; omega)
end Go.Proofs.Ytglfcaioapdiaaa.Bk
