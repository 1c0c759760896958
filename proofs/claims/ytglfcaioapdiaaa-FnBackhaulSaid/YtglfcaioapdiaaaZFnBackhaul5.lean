/-
  What the law FnBackhaul rests on, part 5.
-/
import Derived.Test.YtglfcaioapdiaaaZFnBackhaul4
namespace Go.Proofs.Ytglfcaioapdiaaa.Bk
open Go Go.RowKit Go.Proofs.Ytglfcaioapdiaaa.Aw Go.Proofs.Ytglfcaioapdiaaa.Sr
set_option linter.unusedSimpArgs false
set_option linter.unusedVariables false
attribute [local irreducible] AW SQ Step RO RC DE Thn InB
def onD (kind x y : Int) (s : Sr) : Bool × Sr :=
  if (pk s 4).1 < kind then (true, (pk s 4).2) else if y = x + 1 then (!((pk (pk s 4).2 6).1 == 0), (pk (pk s 4).2 6).2) else (false, (pk s 4).2)
theorem onD_ok {kind x y : Int} {s : Sr} {k : Int} (h : s.ok k) : (onD kind x y s).2.ok (k + 4) := by
  unfold onD
  split
  · exact (pk_ok 4 h).mono (by omega)
  · split
    · have := pk_ok 6 (pk_ok 4 h); exact this.mono (by omega)
    · exact (pk_ok 4 h).mono (by omega)
def ws1 : List Int := [0, 10, 10, 20, 50, 100, 1000, 30000]
def ws2 : List Int := [1, 10, 10, 100, 155, 400, 1000]
def stepD (kind x y : Int) (st : Sr × List Ln) : Sr × List Ln :=
  if (onD kind x y st.1).1 = true ∧ st.2.length ≠ 32 then ((am ws2 (am ws1 (onD kind x y st.1).2).2).2, st.2 ++ [⟨x, y, (am ws1 (onD kind x y st.1).2).1, (am ws2 (am ws1 (onD kind x y st.1).2).2).1⟩]) else ((onD kind x y st.1).2, st.2)
structure DOk (k : Int) (st : Sr × List Ln) : Prop where
  ok : st.1.ok k
  le : st.2.length ≤ 32
theorem DOk.mono {k k' : Int} {st : Sr × List Ln} (h : DOk k st) (hk : k ≤ k') : DOk k' st := ⟨h.ok.mono hk, h.le⟩
theorem stepD_ok {kind x y : Int} {st : Sr × List Ln} {k : Int} (h : DOk k st) : DOk (k + 8) (stepD kind x y st) := by
  unfold stepD
  split
  · rename_i hc
    refine ⟨?_, ?_⟩
    · have := am_ok ws2 (am_ok ws1 (onD_ok (kind := kind) (x := x) (y := y) h.ok))
      exact this.mono (by omega)
    · have := h.le
      have := hc.2
      simp only [List.length_append, List.length_singleton]
      omega
  · exact ⟨(onD_ok h.ok).mono (by omega), h.le⟩
def inD (kind x : Int) (st : Sr × List Ln) : Nat → Sr × List Ln
  | 0 => st
  | j + 1 => stepD kind x (x + 1 + (j : Int)) (inD kind x st j)
theorem inD_ok {kind x : Int} {st : Sr × List Ln} {k : Int} (h : DOk k st) : ∀ j : Nat, DOk (k + 8 * (j : Int)) (inD kind x st j)
  | 0 => h.mono (by omega)
  | j + 1 => (stepD_ok (inD_ok h j)).mono (by omega)
def outD (kind n : Int) (st : Sr × List Ln) : Nat → Sr × List Ln
  | 0 => st
  | i + 1 => inD kind i (outD kind n st i) (n - ((i : Int) + 1)).toNat
theorem outD_ok {kind n : Int} {st : Sr × List Ln} {k : Int} (hn : n ≤ 12) (h : DOk k st) : ∀ i : Nat, DOk (k + 96 * (i : Int)) (outD kind n st i)
  | 0 => h.mono (by omega)
  | i + 1 => (inD_ok (outD_ok hn h i) _).mono (by omega)
def nD (s : Sr) : Int := if (pk (pk s 7).2 10).1 == 0 then 12 else (pk s 7).1 + 1
def kD (s : Sr) : Int := (pk (pk (pk s 7).2 10).2 3).1 + 1
def sD (s : Sr) : Sr := (pk (pk (pk s 7).2 10).2 3).2
theorem nD_in (s : Sr) : 1 ≤ nD s ∧ nD s ≤ 12 := by
  have := pk_bd s 7 (by omega)
  unfold nD; split <;> omega
theorem kD_in (s : Sr) : 1 ≤ kD s ∧ kD s ≤ 3 := by
  have := pk_bd (pk (pk s 7).2 10).2 3 (by omega)
  unfold kD; omega
theorem sD_ok {s : Sr} {k : Int} (h : s.ok k) : (sD s).ok (k + 6) := (pk_ok 3 (pk_ok 10 (pk_ok 7 h))).mono (by omega)
def drD (s : Sr) : Sr × List Ln := outD (kD s) (nD s) (sD s, []) (nD s).toNat
theorem drD_ok {s : Sr} {k : Int} (h : s.ok k) : DOk (k + 2000) (drD s) := by
  have hn := nD_in s
  refine (outD_ok (k := k + 6) (kind := kD s) (st := (sD s, [])) hn.2 ⟨sD_ok h, by simp⟩ (nD s).toNat).mono ?_
  omega
theorem onD_1 {kind x y : Int} {s : Sr} (h : (pk s 4).1 < kind) : onD kind x y s = (true, (pk s 4).2) := if_pos h
theorem onD_2 {kind x y : Int} {s : Sr} (h : ¬ (pk s 4).1 < kind) (hy : y = x + 1) : onD kind x y s = (!((pk (pk s 4).2 6).1 == 0), (pk (pk s 4).2 6).2) := by
  unfold onD; rw [if_neg h, if_pos hy]
theorem onD_3 {kind x y : Int} {s : Sr} (h : ¬ (pk s 4).1 < kind) (hy : y ≠ x + 1) : onD kind x y s = (false, (pk s 4).2) := by
  unfold onD; rw [if_neg h, if_neg hy]
theorem stepD_no {kind x y : Int} {st : Sr × List Ln} {b : Bool} {s' : Sr} (e : onD kind x y st.1 = (b, s')) (h : b = false ∨ st.2.length = 32) : stepD kind x y st = (s', st.2) := by
  unfold stepD; rw [e, if_neg]
  rintro ⟨h1, h2⟩
  rcases h with h | h
  · rw [h] at h1; cases h1
  · exact h2 h
theorem stepD_yes {kind x y : Int} {st : Sr × List Ln} {s' : Sr} (e : onD kind x y st.1 = (true, s')) (h : st.2.length ≠ 32) : stepD kind x y st = ((am ws2 (am ws1 s').2).2, st.2 ++ [⟨x, y, (am ws1 s').1, (am ws2 (am ws1 s').2).1⟩]) := by
  unfold stepD; rw [e, if_pos ⟨rfl, h⟩]
set_option maxHeartbeats 4000000 in
theorem l25DrawOk_rc (b : Nat) (s : Sr) (h : s.ok 100000) (k : Nat) : RC Try.prog 132 [.ptr b 0 0] [(b, ⟨133, 3, false, [srR s]⟩)] k (.agg [.v (.int .i64 (nD s)), .sl k 0 (drD s).2.length])
    [(b, some ⟨133, 3, false, [srR (drD s).1]⟩), (k, some ⟨56, 4, true, (drD s).2.map lnL⟩)] (k + 1) := by
  have h1 := pick_rc 0 s 7 (h.mono (by omega)) (by omega)
  have h2 := one_rc 0 (pk s 7).2 10 ((pk_ok 7 h).mono (by omega)) (by omega)
  have h3 := pick_rc 0 (pk (pk s 7).2 10).2 3 ((pk_ok 10 (pk_ok 7 h)).mono (by omega)) (by omega)
  have hb1 := pk_bd s 7 (by omega)
  have hb3 := pk_bd (pk (pk s 7).2 10).2 3 (by omega)
  have hw1 : IntKind.i64.wrap ((pk s 7).1 + 1) = (pk s 7).1 + 1 := IntWalk.i64_in _ (by omega)
  have hw3 : IntKind.i64.wrap ((pk (pk (pk s 7).2 10).2 3).1 + 1) = kD s := IntWalk.i64_in _ (by omega)
  have hnD := nD_in s
  have hkD := kD_in s
  have hv : nD s = (if ((pk (pk s 7).2 10).1 == 0) = true then 12 else IntKind.i64.wrap ((pk s 7).1 + 1)) := by rw [hw1]; rfl
  have hst0 : DOk 200000 (sD s, ([] : List Ln)) := ⟨(sD_ok h).mono (by omega), by simp⟩
  have hend : drD s = outD (kD s) (nD s) (sD s, []) (nD s).toNat := rfl
  rw [hend]
  have hsD : (pk (pk (pk s 7).2 10).2 3).2 = sD s := rfl
  rw [hsD] at h3
  generalize hkk : kD s = kind at *
  generalize hss : sD s = s0 at *
  generalize hnn : nD s = n at *
  refine RC.ofc [b] 1 [.ptr 0 0 0] [(0, ⟨133, 3, false, [srR s]⟩)] (.agg [.v (.int .i64 n), .sl 1 0 (outD kind n (s0, []) n.toNat).2.length]) [(0, some ⟨133, 3, false, [srR (outD kind n (s0, []) n.toNat).1]⟩), (1, some ⟨56, 4, true, (outD kind n (s0, []) n.toNat).2.map lnL⟩)] Try.func132 Try.ntmps132 rfl (goFn_of Try.func132 rfl (by kernel_rfl)) rfl rfl rfl rfl rfl rfl rfl rfl (by simp_all) rfl ?_
  cases hc : ((pk (pk s 7).2 10).1 == 0)
  all_goals
    rw [hc] at hv
    simp only [if_true, Bool.false_eq_true, if_false] at hv
    ((repeat' (first
    | (show SQ _ _ _ _ _ _ _ _; first | apply sq_nil | (apply q_move; exact rfl; exact rfl) | (apply q_assign; exact rfl; exact rfl) | (apply q_add; iterate 3 exact rfl) | (apply q_build; exact rfl; exact (ty rfl); iterate 3 exact rfl))
    | (show SQ _ _ _ _ _ _ _ _; (first | (apply q_alloc; exact rfl; exact (ty rfl); exact rfl; exact rfl) | (apply q_store; exact rfl; exact rfl; exact (ty rfl); exact rfl; exact (by first | rfl | assumption | ((try simp only [Nat.zero_add]); refine List.getElem?_set_self ?_; (try simp only [List.length_set]); assumption)); iterate 3 exact rfl) | (apply q_build0; exact rfl; exact (ty rfl); exact rfl) | (apply q_callC; (iterate 3 exact rfl); exact h1 _; (focus ((repeat (first | exact trivial | refine ⟨by first | exact rfl | assumption, ?_⟩)); done)); skip) | (apply q_callC; (iterate 3 exact rfl); exact h2 _; (focus ((repeat (first | exact trivial | refine ⟨by first | exact rfl | assumption, ?_⟩)); done)); skip) | (apply q_callC; (iterate 3 exact rfl); exact h3 _; (focus ((repeat (first | exact trivial | refine ⟨by first | exact rfl | assumption, ?_⟩)); done)); skip)); (try simp only [put, rowsOf, plR, selE, ovr, setH, del, cellsA, splice, isV, spq, if_true, if_false]))
    | (show AW _ _ _ _ _ _ _ _; first | refine aw_region ?_ | (refine aw_seqk ?_; intro K hK) | refine aw_block ?_ | (apply aw_cond_t; exact rfl; exact (by assumption)) | (apply aw_cond_f; exact rfl; exact (by assumption)) | refine aw_skip ?_)
    | refine thn_n ?_
    | (refine hK _ _ _ ?_; clear hK K))); all_goals (repeat (clear hK K)))
    rw [← hv]
    show AW _ _ 1 _ _ _ _ _
    refine aw_loop (ρ := fun z => z) (ι := Nat) (fun i => ([(6, .v (.int .i64 i)), (5, .v (.int .i64 kind)), (4, .ptr 3 0 0), (3, .v (.int .i64 n)), (2, .ptr 1 0 0), (0, .ptr 0 0 0)],
        [(0, ⟨133, 3, false, [srR (outD kind n (s0, []) i).1]⟩), (1, ⟨31, 2, false, [[.v (.int .i64 0), .v (.slice none 0 0)]]⟩), (2, ⟨56, 4, true, (outD kind n (s0, []) i).2.map lnL⟩), (3, ⟨31, 2, false, [[.v (.int .i64 n), .sl 2 0 (outD kind n (s0, []) i).2.length]]⟩)], 4))
      (fun i => i ≤ n.toNat) (fun i => n.toNat - i) 0 (Nat.zero_le _) ⟨by (repeat (refine ⟨by first | exact lk_i rfl rfl | exact lk_i rfl (by (try dsimp only); first | rfl | omega | (rw [IntWalk.i64_in _ (by omega)]; first | rfl | omega | (push_cast; omega)) | (simp; done) | (simp; omega)) | exact lk_r rfl rfl rfl, ?_⟩)); exact trivial, by (repeat (refine ⟨by first | exact ⟨rfl, rfl, rfl⟩, ?_⟩)); exact trivial, by rfl, by (intro i hi; (try dsimp only); refine ⟨?_, ?_⟩ <;> first | rfl | omega | (simp at hi; omega) | (simp; omega))⟩ ?_
    intro i hi
    have hO := outD_ok (kind := kind) (n := n) hnD.2 hst0 i
    have hO1 : outD kind n (s0, []) (i + 1) = inD kind i (outD kind n (s0, []) i) (n - ((i : Int) + 1)).toNat := rfl
    by_cases c1 : i < n.toNat
    · have b1 : decide ((i : Int) < n) = true := by simp; omega
      have hwi : IntKind.i64.wrap ((i : Int) + 1) = ((i + 1 : Nat) : Int) := by rw [IntWalk.i64_in _ (by omega)]; omega
      have hwi2 : IntKind.i64.wrap ((i : Int) + 1) = (i : Int) + 1 + ((0 : Nat) : Int) := by rw [IntWalk.i64_in _ (by omega)]; omega
      have hwi3 : IntKind.i64.wrap ((i : Int) + 1) = (i : Int) + 1 := IntWalk.i64_in _ (by omega)
      generalize outD kind n (s0, []) i = Z0 at *
      have hZ0 : DOk 202000 Z0 := hO.mono (by omega)
      ((repeat' (first
    | (show SQ _ _ _ _ _ _ _ _; first | apply sq_nil | (apply q_move; exact rfl; exact rfl) | (apply q_assign; exact rfl; exact rfl) | (apply q_add; iterate 3 exact rfl) | (apply q_lss; iterate 3 exact rfl))
    | (show AW _ _ _ _ _ _ _ _; first | refine aw_region ?_ | (refine aw_seqk ?_; intro K hK) | refine aw_block ?_ | (apply aw_cond_t; exact rfl; exact (by assumption)) | refine aw_skip ?_)
    | refine thn_n ?_
    | (refine hK _ _ _ ?_; clear hK K))); all_goals (repeat (clear hK K)))
      show AW _ _ 1 _ _ _ _ _
      refine aw_loop (ρ := fun z => z) (ι := Nat) (fun j => ([(7, .v (.int .i64 ((i : Int) + 1 + (j : Int)))), (6, .v (.int .i64 i)), (5, .v (.int .i64 kind)), (4, .ptr 3 0 0), (3, .v (.int .i64 n)), (2, .ptr 1 0 0), (0, .ptr 0 0 0)],
          [(0, ⟨133, 3, false, [srR (inD kind i Z0 j).1]⟩), (1, ⟨31, 2, false, [[.v (.int .i64 0), .v (.slice none 0 0)]]⟩), (2, ⟨56, 4, true, (inD kind i Z0 j).2.map lnL⟩), (3, ⟨31, 2, false, [[.v (.int .i64 n), .sl 2 0 (inD kind i Z0 j).2.length]]⟩)], 4))
        (fun j => j ≤ (n - ((i : Int) + 1)).toNat) (fun j => (n - ((i : Int) + 1)).toNat - j) 0 (Nat.zero_le _) ⟨by (repeat (refine ⟨by first | exact lk_i rfl rfl | exact lk_i rfl (by (try dsimp only); first | rfl | omega | (rw [IntWalk.i64_in _ (by omega)]; first | rfl | omega | (push_cast; omega)) | (simp; done) | (simp; omega)) | exact lk_r rfl rfl rfl, ?_⟩)); exact trivial, by (repeat (refine ⟨by first | exact ⟨rfl, rfl, rfl⟩, ?_⟩)); exact trivial, by rfl, by (intro i hi; (try dsimp only); refine ⟨?_, ?_⟩ <;> first | rfl | omega | (simp at hi; omega) | (simp; omega))⟩ ?_
      intro j hj
      have hI := inD_ok (kind := kind) (x := i) hZ0 j
      have hI1 : inD kind i Z0 (j + 1) = stepD kind i ((i : Int) + 1 + (j : Int)) (inD kind i Z0 j) := rfl
      by_cases c2 : j < (n - ((i : Int) + 1)).toNat
      · have b2 : decide (((i : Int) + 1 + (j : Int)) < n) = true := by simp; omega
        have hwj : IntKind.i64.wrap ((i : Int) + 1 + (j : Int) + 1) = (i : Int) + 1 + ((j + 1 : Nat) : Int) := by rw [IntWalk.i64_in _ (by omega)]; omega
        generalize inD kind i Z0 j = Z at *
        have hZ : DOk 203000 Z := hI.mono (by omega)
        obtain ⟨sz, L⟩ := Z
        have hL := hZ.le
        have hok := hZ.ok
        dsimp only at hL hok hI1 ⊢
        have p4 := pick_rc 0 sz 4 (hok.mono (by omega)) (by omega)
        have hok4 := pk_ok 4 hok
        have p6 := one_rc 0 (pk sz 4).2 6 (hok4.mono (by omega)) (by omega)
        have hok6 := pk_ok 6 hok4
        have hml : (L.map lnL).length = L.length := List.length_map _
        -- how a draw ends: with a link or without
        by_cases c3 : (pk sz 4).1 < kind
        · have b3 : decide ((pk sz 4).1 < kind) = true := by simpa using c3
          have e1 := onD_1 (kind := kind) (x := i) (y := (i : Int) + 1 + (j : Int)) c3
          by_cases c5 : L.length = 32
          · have b5 : ((L.length : Int) == 32) = true := by rw [c5]; rfl
            have e2 := stepD_no (st := (sz, L)) e1 (.inr c5)
            ((repeat' (first
    | (show SQ _ _ _ _ _ _ _ _; first | apply sq_nil | (apply q_move; exact rfl; exact rfl) | (apply q_assign; exact rfl; exact rfl) | (apply q_pick_t; (iterate 3 exact rfl); exact (by first | assumption | exact rfl)) | (apply q_pick_f; (iterate 3 exact rfl); exact (by first | assumption | exact rfl)) | (apply q_fieldAddr; exact rfl; exact rfl; exact (ty rfl); iterate 4 exact rfl) | (apply q_not; exact rfl; exact rfl) | (apply q_lenl; exact rfl; exact rfl; exact (ty rfl); exact rfl) | (apply q_add; iterate 3 exact rfl) | (apply q_eql; iterate 3 exact rfl) | (apply q_lss; iterate 3 exact rfl) | (apply q_ld1p; exact rfl; exact rfl; exact (ty rfl); exact rfl; exact rfl; exact (by first | rfl | assumption | ((try simp only [Nat.zero_add]); refine List.getElem?_set_self ?_; (try simp only [List.length_set]); assumption)); exact rfl) | (apply q_s; (iterate 3 exact rfl); exact (by assumption); exact rfl) | (apply q_g; iterate 4 exact rfl) | (apply q_sU; iterate 4 exact rfl))
    | (show SQ _ _ _ _ _ _ _ _; (first | (apply q_callC; (iterate 3 exact rfl); exact p4 _; (focus ((repeat (first | exact trivial | refine ⟨by first | exact rfl | assumption, ?_⟩)); done)); skip)); (try simp only [put, rowsOf, plR, selE, ovr, setH, del, cellsA, splice, isV, spq, if_true, if_false]))
    | (show AW _ _ _ _ _ _ _ _; first | refine aw_region ?_ | (refine aw_seqk ?_; intro K hK) | refine aw_block ?_ | (apply aw_cond_t; exact rfl; exact (by assumption)) | refine aw_exit ?_ | refine aw_skip ?_)
    | refine thn_n ?_
    | (refine hK _ _ _ ?_; clear hK K)
    | refine thn_e ?_
    | refine inb_same ?_
    | (clear hK K; refine hK _ _ _ ?_; clear hK K))); all_goals (repeat (clear hK K)))
            all_goals (refine ⟨j + 1, fun z => z, c2, by omega, ?_⟩; (try dsimp only); rw [hI1, e2, ← hwj]; exact ⟨by (repeat (refine ⟨by first | exact lk_i rfl rfl | exact lk_r rfl rfl rfl, ?_⟩)); exact trivial, by (repeat (refine ⟨by first | exact ⟨rfl, rfl, rfl⟩, ?_⟩)); exact trivial, by rfl, by (intro i hi; (try dsimp only); refine ⟨?_, ?_⟩ <;> first | rfl | omega | (simp at hi; omega) | (simp; omega))⟩)
          · have b5 : ((L.length : Int) == 32) = false := by simp; omega
            have e2 := stepD_yes (st := (sz, L)) e1 c5
            have a1 := among_rc 0 5 (pk sz 4).2 ws1 (by decide) (hok4.mono (by omega)) (by decide) (by decide)
            have hok1 := am_ok ws1 hok4
            have a2 := among_rc 0 6 (am ws1 (pk sz 4).2).2 ws2 (by decide) (hok1.mono (by omega)) (by decide) (by decide)
            generalize am ws1 (pk sz 4).2 = A1 at *
            generalize am ws2 A1.2 = A2 at *
            obtain ⟨o1, s1⟩ := A1
            obtain ⟨o2, s2⟩ := A2
            dsimp only at e2 a1 a2 ⊢
            simp only [nuR, ws1, ws2, List.map_cons, List.map_nil, List.length_cons, List.length_nil] at a1 a2
            ((repeat' (first
    | (show SQ _ _ _ _ _ _ _ _; first | apply sq_nil | (apply q_move; exact rfl; exact rfl) | (apply q_assign; exact rfl; exact rfl) | (apply q_pick_t; (iterate 3 exact rfl); exact (by first | assumption | exact rfl)) | (apply q_pick_f; (iterate 3 exact rfl); exact (by first | assumption | exact rfl)) | (apply q_fieldAddr; exact rfl; exact rfl; exact (ty rfl); iterate 4 exact rfl) | (apply q_not; exact rfl; exact rfl) | (apply q_lenl; exact rfl; exact rfl; exact (ty rfl); exact rfl) | (apply q_add; iterate 3 exact rfl) | (apply q_eql; iterate 3 exact rfl) | (apply q_lss; iterate 3 exact rfl) | (apply q_ld1p; exact rfl; exact rfl; exact (ty rfl); exact rfl; exact rfl; exact (by first | rfl | assumption | ((try simp only [Nat.zero_add]); refine List.getElem?_set_self ?_; (try simp only [List.length_set]); assumption)); exact rfl) | (apply q_build; exact rfl; exact (ty rfl); iterate 3 exact rfl) | (apply q_s; (iterate 3 exact rfl); exact (by assumption); exact rfl) | (apply q_g; iterate 4 exact rfl) | (apply q_sU; iterate 4 exact rfl))
    | (show SQ _ _ _ _ _ _ _ _; (first | (apply q_ldap; exact rfl; exact rfl; exact (ty rfl); exact rfl; exact rfl; exact (by first | rfl | assumption | ((try simp only [Nat.zero_add]); refine List.getElem?_set_self ?_; (try simp only [List.length_set]); assumption)); exact rfl) | (apply q_alloc; exact rfl; exact (ty rfl); exact rfl; exact rfl) | (apply q_store; exact rfl; exact rfl; exact (ty rfl); exact rfl; exact (by first | rfl | assumption | ((try simp only [Nat.zero_add]); refine List.getElem?_set_self ?_; (try simp only [List.length_set]); assumption)); iterate 3 exact rfl) | (apply q_buildn; exact rfl; exact (ty rfl); iterate 7 exact rfl) | (apply q_apo_s; (iterate 3 exact rfl); exact (ty rfl); exact rfl; exact rfl; exact (by first | omega | (simp; done) | (simp; omega)); exact (by first | exact List.take_of_length_le (by first | omega | (simp; done) | (simp; omega)) | rfl); exact (ty rfl); exact rfl; exact rfl; exact (by first | omega | (simp; done) | (simp; omega)); exact (by first | exact dt_full (by first | omega | (simp; done) | (simp; omega)) | assumption | rfl); exact rfl; exact (by first | omega | (simp; done) | (simp; omega)); exact (by first | omega | (simp; done) | (simp; omega)); exact (by first | assumption | exact rfl)) | (apply q_callC; (iterate 3 exact rfl); exact p4 _; (focus ((repeat (first | exact trivial | refine ⟨by first | exact rfl | assumption, ?_⟩)); done)); skip) | (apply q_callC; (iterate 3 exact rfl); exact a1 _; (focus ((repeat (first | exact trivial | refine ⟨by first | exact rfl | assumption, ?_⟩)); done)); skip) | (apply q_callC; (iterate 3 exact rfl); exact a2 _; (focus ((repeat (first | exact trivial | refine ⟨by first | exact rfl | assumption, ?_⟩)); done)); skip)); (try simp only [put, rowsOf, plR, selE, ovr, setH, del, cellsA, splice, isV, spq, if_true, if_false]))
    | (show AW _ _ _ _ _ _ _ _; first | refine aw_region ?_ | (refine aw_seqk ?_; intro K hK) | refine aw_block ?_ | (apply aw_cond_t; exact rfl; exact (by assumption)) | (apply aw_cond_f; exact rfl; exact (by assumption)) | refine aw_skip ?_)
    | refine thn_n ?_
    | (refine hK _ _ _ ?_; clear hK K)
    | refine inb_n ?_)); all_goals (repeat (clear hK K)))
            all_goals (refine ⟨j + 1, fun z => if z = 2 then 8 else z, c2, by omega, ?_⟩; (try dsimp only); rw [hI1, e2, ← hwj]; (try dsimp only); rw [List.map_append, List.length_append]; exact ⟨by (repeat (refine ⟨by first | exact lk_i rfl rfl | exact lk_r rfl rfl rfl, ?_⟩)); exact trivial, by (repeat (refine ⟨by first | exact ⟨rfl, rfl, rfl⟩, ?_⟩)); exact trivial, by rfl, by (intro i hi; (try dsimp only); refine ⟨?_, ?_⟩ <;> first | rfl | omega | (simp at hi; omega) | (simp; omega))⟩)
        · have b3 : decide ((pk sz 4).1 < kind) = false := by simpa using c3
          by_cases c4 : (i : Int) + 1 + (j : Int) = (i : Int) + 1
          · have b4 : ((i : Int) + 1 + (j : Int) == IntKind.i64.wrap ((i : Int) + 1)) = true := by rw [hwi3]; simpa using c4
            have e1 := onD_2 (kind := kind) (x := i) (y := (i : Int) + 1 + (j : Int)) c3 c4
            cases c6 : ((pk (pk sz 4).2 6).1 == 0) with
            | true =>
              have b6 : (!((pk (pk sz 4).2 6).1 == 0)) = false := by rw [c6]; rfl
              have b7 : (!(!((pk (pk sz 4).2 6).1 == 0))) = true := by rw [c6]; rfl
              rw [b6] at e1
              have e2 := stepD_no (st := (sz, L)) e1 (.inl rfl)
              ((repeat' (first
    | (show SQ _ _ _ _ _ _ _ _; first | apply sq_nil | (apply q_move; exact rfl; exact rfl) | (apply q_assign; exact rfl; exact rfl) | (apply q_pick_t; (iterate 3 exact rfl); exact (by first | assumption | exact rfl)) | (apply q_pick_f; (iterate 3 exact rfl); exact (by first | assumption | exact rfl)) | (apply q_not; exact rfl; exact rfl) | (apply q_add; iterate 3 exact rfl) | (apply q_eql; iterate 3 exact rfl) | (apply q_lss; iterate 3 exact rfl) | (apply q_g; (iterate 3 exact rfl); exact (by assumption)) | (apply q_s; (iterate 3 exact rfl); exact (by assumption); exact rfl))
    | (show SQ _ _ _ _ _ _ _ _; (first | (apply q_callC; (iterate 3 exact rfl); exact p4 _; (focus ((repeat (first | exact trivial | refine ⟨by first | exact rfl | assumption, ?_⟩)); done)); skip) | (apply q_callC; (iterate 3 exact rfl); exact p6 _; (focus ((repeat (first | exact trivial | refine ⟨by first | exact rfl | assumption, ?_⟩)); done)); skip)); (try simp only [put, rowsOf, plR, selE, ovr, setH, del, cellsA, splice, isV, spq, if_true, if_false]))
    | (show AW _ _ _ _ _ _ _ _; first | refine aw_region ?_ | (refine aw_seqk ?_; intro K hK) | refine aw_block ?_ | (apply aw_cond_t; exact rfl; exact rfl) | (apply aw_cond_t; exact rfl; exact (by assumption)) | refine aw_exit ?_ | refine aw_skip ?_)
    | refine thn_n ?_
    | (refine hK _ _ _ ?_; clear hK K)
    | refine thn_e ?_
    | refine inb_same ?_
    | (clear hK K; refine hK _ _ _ ?_; clear hK K))); all_goals (repeat (clear hK K)))
              all_goals (refine ⟨j + 1, fun z => z, c2, by omega, ?_⟩; (try dsimp only); rw [hI1, e2, ← hwj]; exact ⟨by (repeat (refine ⟨by first | exact lk_i rfl rfl | exact lk_r rfl rfl rfl, ?_⟩)); exact trivial, by (repeat (refine ⟨by first | exact ⟨rfl, rfl, rfl⟩, ?_⟩)); exact trivial, by rfl, by (intro i hi; (try dsimp only); refine ⟨?_, ?_⟩ <;> first | rfl | omega | (simp at hi; omega) | (simp; omega))⟩)
            | false =>
              have b6 : (!((pk (pk sz 4).2 6).1 == 0)) = true := by rw [c6]; rfl
              have b7 : (!(!((pk (pk sz 4).2 6).1 == 0))) = false := by rw [c6]; rfl
              rw [b6] at e1
              by_cases c5 : L.length = 32
              · have b5 : ((L.length : Int) == 32) = true := by rw [c5]; rfl
                have e2 := stepD_no (st := (sz, L)) e1 (.inr c5)
                ((repeat' (first
    | (show SQ _ _ _ _ _ _ _ _; first | apply sq_nil | (apply q_move; exact rfl; exact rfl) | (apply q_assign; exact rfl; exact rfl) | (apply q_pick_t; (iterate 3 exact rfl); exact (by first | assumption | exact rfl)) | (apply q_pick_f; (iterate 3 exact rfl); exact (by first | assumption | exact rfl)) | (apply q_fieldAddr; exact rfl; exact rfl; exact (ty rfl); iterate 4 exact rfl) | (apply q_not; exact rfl; exact rfl) | (apply q_lenl; exact rfl; exact rfl; exact (ty rfl); exact rfl) | (apply q_add; iterate 3 exact rfl) | (apply q_eql; iterate 3 exact rfl) | (apply q_lss; iterate 3 exact rfl) | (apply q_ld1p; exact rfl; exact rfl; exact (ty rfl); exact rfl; exact rfl; exact (by first | rfl | assumption | ((try simp only [Nat.zero_add]); refine List.getElem?_set_self ?_; (try simp only [List.length_set]); assumption)); exact rfl) | (apply q_g; (iterate 3 exact rfl); exact (by assumption)))
    | (show SQ _ _ _ _ _ _ _ _; (first | (apply q_callC; (iterate 3 exact rfl); exact p4 _; (focus ((repeat (first | exact trivial | refine ⟨by first | exact rfl | assumption, ?_⟩)); done)); skip) | (apply q_callC; (iterate 3 exact rfl); exact p6 _; (focus ((repeat (first | exact trivial | refine ⟨by first | exact rfl | assumption, ?_⟩)); done)); skip)); (try simp only [put, rowsOf, plR, selE, ovr, setH, del, cellsA, splice, isV, spq, if_true, if_false]))
    | (show AW _ _ _ _ _ _ _ _; first | refine aw_region ?_ | (refine aw_seqk ?_; intro K hK) | refine aw_block ?_ | (apply aw_cond_t; exact rfl; exact (by assumption)) | refine aw_exit ?_ | refine aw_skip ?_)
    | refine thn_n ?_
    | (refine hK _ _ _ ?_; clear hK K)
    | refine thn_e ?_
    | refine inb_same ?_
    | (clear hK K; refine hK _ _ _ ?_; clear hK K))); all_goals (repeat (clear hK K)))
                all_goals (refine ⟨j + 1, fun z => z, c2, by omega, ?_⟩; (try dsimp only); rw [hI1, e2, ← hwj]; exact ⟨by (repeat (refine ⟨by first | exact lk_i rfl rfl | exact lk_r rfl rfl rfl, ?_⟩)); exact trivial, by (repeat (refine ⟨by first | exact ⟨rfl, rfl, rfl⟩, ?_⟩)); exact trivial, by rfl, by (intro i hi; (try dsimp only); refine ⟨?_, ?_⟩ <;> first | rfl | omega | (simp at hi; omega) | (simp; omega))⟩)
              · have b5 : ((L.length : Int) == 32) = false := by simp; omega
                have e2 := stepD_yes (st := (sz, L)) e1 c5
                have a1 := among_rc 0 5 (pk (pk sz 4).2 6).2 ws1 (by decide) (hok6.mono (by omega)) (by decide) (by decide)
                have hok1 := am_ok ws1 hok6
                have a2 := among_rc 0 6 (am ws1 (pk (pk sz 4).2 6).2).2 ws2 (by decide) (hok1.mono (by omega)) (by decide) (by decide)
                generalize am ws1 (pk (pk sz 4).2 6).2 = A1 at *
                generalize am ws2 A1.2 = A2 at *
                obtain ⟨o1, s1⟩ := A1
                obtain ⟨o2, s2⟩ := A2
                dsimp only at e2 a1 a2 ⊢
                simp only [nuR, ws1, ws2, List.map_cons, List.map_nil, List.length_cons, List.length_nil] at a1 a2
                ((repeat' (first
    | (show SQ _ _ _ _ _ _ _ _; first | apply sq_nil | (apply q_move; exact rfl; exact rfl) | (apply q_assign; exact rfl; exact rfl) | (apply q_pick_t; (iterate 3 exact rfl); exact (by first | assumption | exact rfl)) | (apply q_pick_f; (iterate 3 exact rfl); exact (by first | assumption | exact rfl)) | (apply q_fieldAddr; exact rfl; exact rfl; exact (ty rfl); iterate 4 exact rfl) | (apply q_not; exact rfl; exact rfl) | (apply q_lenl; exact rfl; exact rfl; exact (ty rfl); exact rfl) | (apply q_add; iterate 3 exact rfl) | (apply q_eql; iterate 3 exact rfl) | (apply q_lss; iterate 3 exact rfl) | (apply q_ld1p; exact rfl; exact rfl; exact (ty rfl); exact rfl; exact rfl; exact (by first | rfl | assumption | ((try simp only [Nat.zero_add]); refine List.getElem?_set_self ?_; (try simp only [List.length_set]); assumption)); exact rfl) | (apply q_build; exact rfl; exact (ty rfl); iterate 3 exact rfl) | (apply q_g; (iterate 3 exact rfl); exact (by assumption)))
    | (show SQ _ _ _ _ _ _ _ _; (first | (apply q_ldap; exact rfl; exact rfl; exact (ty rfl); exact rfl; exact rfl; exact (by first | rfl | assumption | ((try simp only [Nat.zero_add]); refine List.getElem?_set_self ?_; (try simp only [List.length_set]); assumption)); exact rfl) | (apply q_alloc; exact rfl; exact (ty rfl); exact rfl; exact rfl) | (apply q_store; exact rfl; exact rfl; exact (ty rfl); exact rfl; exact (by first | rfl | assumption | ((try simp only [Nat.zero_add]); refine List.getElem?_set_self ?_; (try simp only [List.length_set]); assumption)); iterate 3 exact rfl) | (apply q_buildn; exact rfl; exact (ty rfl); iterate 7 exact rfl) | (apply q_apo_s; (iterate 3 exact rfl); exact (ty rfl); exact rfl; exact rfl; exact (by first | omega | (simp; done) | (simp; omega)); exact (by first | exact List.take_of_length_le (by first | omega | (simp; done) | (simp; omega)) | rfl); exact (ty rfl); exact rfl; exact rfl; exact (by first | omega | (simp; done) | (simp; omega)); exact (by first | exact dt_full (by first | omega | (simp; done) | (simp; omega)) | assumption | rfl); exact rfl; exact (by first | omega | (simp; done) | (simp; omega)); exact (by first | omega | (simp; done) | (simp; omega)); exact (by first | assumption | exact rfl)) | (apply q_callC; (iterate 3 exact rfl); exact p4 _; (focus ((repeat (first | exact trivial | refine ⟨by first | exact rfl | assumption, ?_⟩)); done)); skip) | (apply q_callC; (iterate 3 exact rfl); exact p6 _; (focus ((repeat (first | exact trivial | refine ⟨by first | exact rfl | assumption, ?_⟩)); done)); skip) | (apply q_callC; (iterate 3 exact rfl); exact a1 _; (focus ((repeat (first | exact trivial | refine ⟨by first | exact rfl | assumption, ?_⟩)); done)); skip) | (apply q_callC; (iterate 3 exact rfl); exact a2 _; (focus ((repeat (first | exact trivial | refine ⟨by first | exact rfl | assumption, ?_⟩)); done)); skip)); (try simp only [put, rowsOf, plR, selE, ovr, setH, del, cellsA, splice, isV, spq, if_true, if_false]))
    | (show AW _ _ _ _ _ _ _ _; first | refine aw_region ?_ | (refine aw_seqk ?_; intro K hK) | refine aw_block ?_ | (apply aw_cond_t; exact rfl; exact (by assumption)) | (apply aw_cond_f; exact rfl; exact (by assumption)) | refine aw_skip ?_)
    | refine thn_n ?_
    | (refine hK _ _ _ ?_; clear hK K)
    | refine inb_n ?_)); all_goals (repeat (clear hK K)))
                all_goals (refine ⟨j + 1, fun z => if z = 2 then 8 else z, c2, by omega, ?_⟩; (try dsimp only); rw [hI1, e2, ← hwj]; (try dsimp only); rw [List.map_append, List.length_append]; exact ⟨by (repeat (refine ⟨by first | exact lk_i rfl rfl | exact lk_r rfl rfl rfl, ?_⟩)); exact trivial, by (repeat (refine ⟨by first | exact ⟨rfl, rfl, rfl⟩, ?_⟩)); exact trivial, by rfl, by (intro i hi; (try dsimp only); refine ⟨?_, ?_⟩ <;> first | rfl | omega | (simp at hi; omega) | (simp; omega))⟩)
          · have b4 : ((i : Int) + 1 + (j : Int) == IntKind.i64.wrap ((i : Int) + 1)) = false := by rw [hwi3]; simpa using c4
            have e1 := onD_3 (kind := kind) (x := i) (y := (i : Int) + 1 + (j : Int)) c3 c4
            have e2 := stepD_no (st := (sz, L)) e1 (.inl rfl)
            ((repeat' (first
    | (show SQ _ _ _ _ _ _ _ _; first | apply sq_nil | (apply q_move; exact rfl; exact rfl) | (apply q_assign; exact rfl; exact rfl) | (apply q_pick_t; (iterate 3 exact rfl); exact (by first | assumption | exact rfl)) | (apply q_pick_f; (iterate 3 exact rfl); exact (by first | assumption | exact rfl)) | (apply q_not; exact rfl; exact rfl) | (apply q_add; iterate 3 exact rfl) | (apply q_eql; iterate 3 exact rfl) | (apply q_lss; iterate 3 exact rfl) | (apply q_g; (iterate 3 exact rfl); exact (by assumption)) | (apply q_s; (iterate 3 exact rfl); exact (by assumption); exact rfl) | (apply q_s; iterate 5 exact rfl))
    | (show SQ _ _ _ _ _ _ _ _; (first | (apply q_callC; (iterate 3 exact rfl); exact p4 _; (focus ((repeat (first | exact trivial | refine ⟨by first | exact rfl | assumption, ?_⟩)); done)); skip)); (try simp only [put, rowsOf, plR, selE, ovr, setH, del, cellsA, splice, isV, spq, if_true, if_false]))
    | (show AW _ _ _ _ _ _ _ _; first | refine aw_region ?_ | (refine aw_seqk ?_; intro K hK) | refine aw_block ?_ | (apply aw_cond_t; exact rfl; exact rfl) | (apply aw_cond_t; exact rfl; exact (by assumption)) | refine aw_exit ?_ | refine aw_skip ?_)
    | refine thn_n ?_
    | (refine hK _ _ _ ?_; clear hK K)
    | refine thn_e ?_
    | refine inb_same ?_
    | (clear hK K; refine hK _ _ _ ?_; clear hK K))); all_goals (repeat (clear hK K)))
            all_goals (refine ⟨j + 1, fun z => z, c2, by omega, ?_⟩; (try dsimp only); rw [hI1, e2, ← hwj]; exact ⟨by (repeat (refine ⟨by first | exact lk_i rfl rfl | exact lk_r rfl rfl rfl, ?_⟩)); exact trivial, by (repeat (refine ⟨by first | exact ⟨rfl, rfl, rfl⟩, ?_⟩)); exact trivial, by rfl, by (intro i hi; (try dsimp only); refine ⟨?_, ?_⟩ <;> first | rfl | omega | (simp at hi; omega) | (simp; omega))⟩)
      · have b2 : decide (((i : Int) + 1 + (j : Int)) < n) = false := by simp; omega
        obtain rfl : j = (n - ((i : Int) + 1)).toNat := by omega
        ((repeat' (first
    | (show SQ _ _ _ _ _ _ _ _; first | apply sq_nil | (apply q_move; exact rfl; exact rfl) | (apply q_assign; exact rfl; exact rfl) | (apply q_add; iterate 3 exact rfl) | (apply q_lss; iterate 3 exact rfl))
    | (show AW _ _ _ _ _ _ _ _; first | refine aw_region ?_ | (refine aw_seqk ?_; intro K hK) | (apply aw_cond_f; exact rfl; exact (by assumption)) | refine aw_exit ?_)
    | refine thn_n ?_
    | (refine hK _ _ _ ?_; clear hK K)
    | refine thn_e ?_
    | refine inb_same ?_
    | refine inb_n ?_
    | (clear hK K; refine hK _ _ _ ?_; clear hK K))); all_goals (repeat (clear hK K)))
        all_goals (refine ⟨i + 1, fun z => z, c1, by omega, ?_⟩; (try dsimp only); rw [hO1, ← hwi]; exact ⟨by (repeat (refine ⟨by first | exact lk_i rfl rfl | exact lk_r rfl rfl rfl, ?_⟩)); exact trivial, by (repeat (refine ⟨by first | exact ⟨rfl, rfl, rfl⟩, ?_⟩)); exact trivial, by rfl, by (intro i hi; (try dsimp only); refine ⟨?_, ?_⟩ <;> first | rfl | omega | (simp at hi; omega) | (simp; omega))⟩)
    · have b1 : decide ((i : Int) < n) = false := by simp; omega
      obtain rfl : i = n.toNat := by omega
      ((repeat' (first
    | (show SQ _ _ _ _ _ _ _ _; first | apply sq_nil | (apply q_move; exact rfl; exact rfl) | (apply q_lss; iterate 3 exact rfl))
    | (show SQ _ _ _ _ _ _ _ _; (first | (apply q_ldap; exact rfl; exact rfl; exact (ty rfl); exact rfl; exact rfl; exact (by first | rfl | assumption | ((try simp only [Nat.zero_add]); refine List.getElem?_set_self ?_; (try simp only [List.length_set]); assumption)); exact rfl) | (apply q_store; exact rfl; exact rfl; exact (ty rfl); exact rfl; exact (by first | rfl | assumption | ((try simp only [Nat.zero_add]); refine List.getElem?_set_self ?_; (try simp only [List.length_set]); assumption)); iterate 3 exact rfl)); (try simp only [put, rowsOf, plR, selE, ovr, setH, del, cellsA, splice, isV, spq, if_true, if_false]))
    | (show AW _ _ _ _ _ _ _ _; first | refine aw_region ?_ | (refine aw_seqk ?_; intro K hK) | (apply aw_cond_f; exact rfl; exact (by assumption)) | refine aw_ret ?_ | refine aw_exit ?_)
    | refine thn_n ?_
    | (refine hK _ _ _ ?_; clear hK K)
    | refine thn_e ?_
    | refine inb_same ?_
    | (clear hK K; refine hK _ _ _ ?_; clear hK K))); all_goals (repeat (clear hK K)))
      all_goals exact finc (fun z => if z = 1 then 2 else z) (.r1 _ _ (.agg _ _ _ _ _ rfl (.inr ⟨_, _, _, _, _, rfl, rfl, rfl, rfl⟩) (ty rfl) rfl (Nat.le_of_ble_eq_true rfl))) rfl (fun z hz => by simp at hz; simp; omega) ⟨rfl, rfl, trivial⟩ rfl
end Go.Proofs.Ytglfcaioapdiaaa.Bk

namespace Go.Proofs.Ytglfcaioapdiaaa.Bk
open Go Go.RowKit Go.Proofs.Ytglfcaioapdiaaa.Aw Go.Proofs.Ytglfcaioapdiaaa.Sr
set_option linter.unusedSimpArgs false
set_option linter.unusedVariables false
attribute [local irreducible] AW SQ Step RO RC DE Thn InB
theorem am_mem {s : Sr} {ws : List Int} (h : 1 ≤ ws.length) : (am ws s).1 ∈ ws := by
  have hp := pk_bd s ws.length (by omega)
  have hl : (pk s ws.length).1.toNat < ws.length := by omega
  unfold am
  dsimp only
  rw [List.getD_eq_getElem?_getD, List.getElem?_eq_getElem hl]
  exact List.getElem_mem _
structure Bd (s : Sr) (k n : Int) (ls : List Ln) (s' : Sr) : Prop where
  nb : n ≤ 100
  le : ls.length ≤ 32
  ok : s'.ok (k + 2100)
  rc : ∀ j id, RC Try.prog 113 [.ptr id 0 0] [(id, ⟨133, 3, false, [srR s]⟩)] j (.agg [.v (.int .i64 n), .sl j 0 ls.length]) [(id, some ⟨133, 3, false, [srR s']⟩), (j, some ⟨56, 4, true, ls.map lnL⟩)] (j + 1)
theorem l25Draw_ex {s : Sr} {k : Int} (h : s.ok k) (hk : k ≤ 90000) : ∃ n ls s', Bd s k n ls s' := by
  have h1 := fun id => l25DrawOk_rc id s (h.mono (by omega))
  have hD := drD_ok h
  have hn := nD_in s
  generalize nD s = n at *
  generalize drD s = Z at *
  obtain ⟨s1, ls⟩ := Z
  have hL := hD.le
  have hok := hD.ok
  dsimp only at h1 hL hok
  have h2 := fun id => pick_rc id s1 18 (hok.mono (by omega)) (by omega)
  have hok2 := pk_ok 18 hok
  have bd2 := pk_bd s1 18 (by omega)
  generalize pk s1 18 = P at *
  obtain ⟨p, s2⟩ := P
  dsimp only at h2 hok2 bd2
  have hml : (ls.map lnL).length = ls.length := List.length_map _
  have plain : (∀ j id, RC Try.prog 113 [.ptr id 0 0] [(id, ⟨133, 3, false, [srR s]⟩)] j (.agg [.v (.int .i64 n), .sl j 0 ls.length]) [(id, some ⟨133, 3, false, [srR s2]⟩), (j, some ⟨56, 4, true, ls.map lnL⟩)] (j + 1)) → ∃ n ls s', Bd s k n ls s' := fun hh => ⟨n, ls, s2, by omega, hL, hok2.mono (by omega), hh⟩
  by_cases c0 : p = 0
  · subst c0
    have b0 : ((0 : Int) == 0) = true := rfl
    have a1 := among_rc 0 4 s2 [0, 13, IntKind.i64.wrap (n - 1)] (by decide) (hok2.mono (by omega)) (by simp) (by simp)
    have hok3 := am_ok [0, 13, IntKind.i64.wrap (n - 1)] hok2
    have hm := am_mem (s := s2) (ws := [0, 13, IntKind.i64.wrap (n - 1)]) (by simp)
    have hwn : IntKind.i64.wrap (n - 1) = n - 1 := IntWalk.i64_in _ (by omega)
    generalize am [0, 13, IntKind.i64.wrap (n - 1)] s2 = A at *
    obtain ⟨v, s3⟩ := A
    dsimp only at a1 hok3 hm
    have hv : v ≤ 100 := by
      simp only [List.mem_cons, List.not_mem_nil, or_false, hwn] at hm
      omega
    simp only [nuR, List.map_cons, List.map_nil, List.length_cons, List.length_nil] at a1
    refine ⟨v, ls, s3, hv, hL, hok3.mono (by omega), fun j id => ?_⟩
    refine RC.ofc [id] 1 [.ptr 0 0 0] [(0, ⟨133, 3, false, [srR s]⟩)] (.agg [.v (.int .i64 v), .sl 1 0 ls.length]) [(0, some ⟨133, 3, false, [srR s3]⟩), (1, some ⟨56, 4, true, ls.map lnL⟩)] Try.func113 Try.ntmps113 rfl (goFn_of Try.func113 rfl (by kernel_rfl)) rfl rfl rfl rfl rfl rfl rfl rfl (by simp_all) rfl ?_
    ((repeat' (first
    | (show SQ _ _ _ _ _ _ _ _; first | apply sq_nil | (apply q_move; exact rfl; exact rfl) | (apply q_assign; exact rfl; exact rfl) | (apply q_fieldAddr; exact rfl; exact rfl; exact (ty rfl); iterate 4 exact rfl) | (apply q_lenl; exact rfl; exact rfl; exact (ty rfl); exact rfl) | (apply q_sub; iterate 3 exact rfl) | (apply q_eql; iterate 3 exact rfl) | (apply q_ld1p; exact rfl; exact rfl; exact (ty rfl); exact rfl; exact rfl; exact (by first | rfl | assumption | ((try simp only [Nat.zero_add]); refine List.getElem?_set_self ?_; (try simp only [List.length_set]); assumption)); exact rfl))
    | (show SQ _ _ _ _ _ _ _ _; (first | (apply q_ldap; exact rfl; exact rfl; exact (ty rfl); exact rfl; exact rfl; exact (by first | rfl | assumption | ((try simp only [Nat.zero_add]); refine List.getElem?_set_self ?_; (try simp only [List.length_set]); assumption)); exact rfl) | (apply q_alloc; exact rfl; exact (ty rfl); exact rfl; exact rfl) | (apply q_store; exact rfl; exact rfl; exact (ty rfl); exact rfl; exact (by first | rfl | assumption | ((try simp only [Nat.zero_add]); refine List.getElem?_set_self ?_; (try simp only [List.length_set]); assumption)); iterate 3 exact rfl) | (apply q_buildn; exact rfl; exact (ty rfl); iterate 7 exact rfl) | (apply q_callC; (iterate 3 exact rfl); exact h1 0 _; (focus ((repeat (first | exact trivial | refine ⟨by first | exact rfl | assumption, ?_⟩)); done)); skip) | (apply q_callC; (iterate 3 exact rfl); exact h2 0 _; (focus ((repeat (first | exact trivial | refine ⟨by first | exact rfl | assumption, ?_⟩)); done)); skip) | (apply q_callC; (iterate 3 exact rfl); exact a1 _; (focus ((repeat (first | exact trivial | refine ⟨by first | exact rfl | assumption, ?_⟩)); done)); skip)); (try simp only [put, rowsOf, plR, selE, ovr, setH, del, cellsA, splice, isV, spq, if_true, if_false]))
    | (show AW _ _ _ _ _ _ _ _; first | refine aw_region ?_ | (refine aw_seqk ?_; intro K hK) | refine aw_block ?_ | (apply aw_cond_t; exact rfl; exact rfl) | refine aw_ret ?_)
    | refine thn_n ?_
    | (refine hK _ _ _ ?_; clear hK K)
    | refine inb_n ?_)); all_goals (repeat (clear hK K)))
    exact finc (fun z => if z = 1 then 2 else z) (.r1 _ _ (.agg _ _ _ _ _ rfl (.inr ⟨_, _, _, _, _, rfl, rfl, rfl, rfl⟩) (ty rfl) rfl (Nat.le_of_ble_eq_true rfl))) rfl (fun z hz => by simp at hz; simp; omega) ⟨rfl, rfl, trivial⟩ rfl
  by_cases c1 : p = 1
  · subst c1
    have b0 : ((1 : Int) == 0) = false := rfl
    have b1 : ((1 : Int) == 1) = true := rfl
    by_cases d : 0 < ls.length
    · have b5 : decide ((0 : Int) < (ls.length : Int)) = true := by simpa using d
      have g2 := fun id => pick_rc id s2 (ls.length : Int) (hok2.mono (by omega)) (by omega)
      have hok3 := pk_ok (ls.length : Int) hok2
      have bd3 := pk_bd s2 (ls.length : Int) (by omega)
      generalize pk s2 (ls.length : Int) = Q at *
      obtain ⟨q, s3⟩ := Q
      dsimp only at g2 hok3 bd3
      obtain ⟨q, rfl⟩ := Int.eq_ofNat_of_zero_le bd3.1
      have hq : q < ls.length := by omega
      have hrow2 : (ls.map lnL)[0 + ((q : Int)).toNat]? = some (lnL ls[q]) := by simp [hq]
      have hrow3 : (ls.map lnL)[((q : Int)).toNat]? = some (lnL ls[q]) := by simp [hq]
      rw [lnL_eq] at hrow2 hrow3
      have hlen2 : ((q : Int)).toNat < (ls.map lnL).length := by simpa using hq
      have a1 := among_rc 0 4 s3 [-1, 1000000, 1000001] (by decide) (hok3.mono (by omega)) (by simp) (by simp)
      have hok4 := am_ok [-1, 1000000, 1000001] hok3
      generalize am [-1, 1000000, 1000001] s3 = A at *
      obtain ⟨v, s4⟩ := A
      dsimp only at a1 hok4
      simp only [nuR, List.map_cons, List.map_nil, List.length_cons, List.length_nil] at a1
      have hset : (ls.set q ⟨ls[q].a, ls[q].b, v, ls[q].c⟩).map lnL = (ls.map lnL).set q (lnL ⟨ls[q].a, ls[q].b, v, ls[q].c⟩) := List.map_set
      rw [lnL_eq] at hset
      dsimp only at hset
      refine ⟨n, ls.set q ⟨ls[q].a, ls[q].b, v, ls[q].c⟩, s4, by omega, by simpa using hL, hok4.mono (by omega), fun j id => ?_⟩
      rw [List.length_set, hset]
      refine RC.ofc [id] 1 [.ptr 0 0 0] [(0, ⟨133, 3, false, [srR s]⟩)] (.agg [.v (.int .i64 n), .sl 1 0 ls.length]) [(0, some ⟨133, 3, false, [srR s4]⟩), (1, some ⟨56, 4, true, (ls.map lnL).set q [.v (.int .i64 ls[q].a), .v (.int .i64 ls[q].b), .v (.int .i64 v), .v (.int .i64 ls[q].c)]⟩)] Try.func113 Try.ntmps113 rfl (goFn_of Try.func113 rfl (by kernel_rfl)) rfl rfl rfl rfl rfl rfl rfl rfl (by simp_all) rfl ?_
      ((repeat' (first
    | (show SQ _ _ _ _ _ _ _ _; first | apply sq_nil | (apply q_move; exact rfl; exact rfl) | (apply q_assign; exact rfl; exact rfl) | (apply q_fieldAddr; exact rfl; exact rfl; exact (ty rfl); iterate 4 exact rfl) | (apply q_lenl; exact rfl; exact rfl; exact (ty rfl); exact rfl) | (apply q_eql; iterate 3 exact rfl) | (apply q_gtr; iterate 3 exact rfl) | (apply q_ld1p; exact rfl; exact rfl; exact (ty rfl); exact rfl; exact rfl; exact (by first | rfl | assumption | ((try simp only [Nat.zero_add]); refine List.getElem?_set_self ?_; (try simp only [List.length_set]); assumption)); exact rfl))
    | (show SQ _ _ _ _ _ _ _ _; (first | (apply q_ldap; exact rfl; exact rfl; exact (ty rfl); exact rfl; exact rfl; exact (by first | rfl | assumption | ((try simp only [Nat.zero_add]); refine List.getElem?_set_self ?_; (try simp only [List.length_set]); assumption)); exact rfl) | (apply q_alloc; exact rfl; exact (ty rfl); exact rfl; exact rfl) | (apply q_store; exact rfl; exact rfl; exact (ty rfl); exact rfl; exact (by first | rfl | assumption | ((try simp only [Nat.zero_add]); refine List.getElem?_set_self ?_; (try simp only [List.length_set]); assumption)); iterate 3 exact rfl) | (apply q_callC; (iterate 3 exact rfl); exact h1 0 _; (focus ((repeat (first | exact trivial | refine ⟨by first | exact rfl | assumption, ?_⟩)); done)); skip) | (apply q_callC; (iterate 3 exact rfl); exact h2 0 _; (focus ((repeat (first | exact trivial | refine ⟨by first | exact rfl | assumption, ?_⟩)); done)); skip) | (apply q_callC; (iterate 3 exact rfl); exact g2 0 _; (focus ((repeat (first | exact trivial | refine ⟨by first | exact rfl | assumption, ?_⟩)); done)); skip)); (try simp only [put, rowsOf, plR, selE, ovr, setH, del, cellsA, splice, isV, spq, if_true, if_false]))
    | (show DE _ _ _ _ _ _ _ _ _ _ _ _; first | (apply e_move; iterate 3 exact rfl) | (apply e_fieldAddr; exact rfl; exact rfl; exact (ty rfl); iterate 5 exact rfl) | (apply e_ixl; (iterate 3 exact rfl); exact (ty rfl); (iterate 3 exact rfl); exact (by first | omega | (simp; done) | (simp; omega)); exact (by first | omega | (simp; done) | (simp; omega)); exact rfl))
    | (show DE _ _ _ _ _ _ _ _ _ _ _ _; (first | (apply dr_nil; (focus ((repeat (first | exact trivial | exact Or.inr rfl | exact Or.inl (by kernel_rfl) | apply And.intro)); done))) | (apply e_rd1; exact rfl; exact rfl; exact (ty rfl); exact rfl; exact rfl; exact (by first | rfl | assumption | ((try simp only [Nat.zero_add]); refine List.getElem?_set_self ?_; (try simp only [List.length_set]); assumption)); iterate 3 exact rfl) | (apply e_store; exact rfl; exact rfl; exact (ty rfl); exact rfl; exact (by first | rfl | assumption | ((try simp only [Nat.zero_add]); refine List.getElem?_set_self ?_; (try simp only [List.length_set]); assumption)); iterate 4 exact rfl) | (apply e_buildn; exact rfl; exact (ty rfl); iterate 8 exact rfl) | (apply e_callC; (iterate 3 exact rfl); exact a1 _; (focus ((repeat (first | exact trivial | refine ⟨by first | exact rfl | assumption, ?_⟩)); done)); exact rfl; skip)); (try simp only [put, rowsOf, plR, selE, ovr, setH, del, cellsA, splice, isV, spq, if_true, if_false]))
    | (show AW _ _ _ _ _ _ _ _; first | refine aw_region ?_ | (refine aw_seqk ?_; intro K hK) | refine aw_block ?_ | (apply aw_cond_t; exact rfl; exact rfl) | (apply aw_cond_f; exact rfl; exact rfl) | (apply aw_cond_t; exact rfl; exact (by assumption)) | refine aw_ret ?_ | refine aw_drawE (id := 9) [0, 1, 0, 0, 0, 24, 63, 127, 255] [0, 0, 0, 0, 1, 2, 1, 0, 2, 1, 3] mixed (by kernel_rfl) ?_)
    | refine thn_n ?_
    | (refine hK _ _ _ ?_; clear hK K)
    | refine inb_n ?_)); all_goals (repeat (clear hK K)))
      exact finc (fun z => if z = 1 then 2 else z) (.r1 _ _ (.agg _ _ _ _ _ rfl (.inr ⟨_, _, _, _, _, rfl, rfl, rfl, rfl⟩) (ty rfl) rfl (Nat.le_of_ble_eq_true rfl))) rfl (fun z hz => by simp at hz; simp; omega) ⟨rfl, rfl, trivial⟩ rfl
    · have b5 : decide ((0 : Int) < (ls.length : Int)) = false := by simpa using d
      refine plain fun j id => ?_
      refine RC.ofc [id] 1 [.ptr 0 0 0] [(0, ⟨133, 3, false, [srR s]⟩)] (.agg [.v (.int .i64 n), .sl 1 0 ls.length]) [(0, some ⟨133, 3, false, [srR s2]⟩), (1, some ⟨56, 4, true, ls.map lnL⟩)] Try.func113 Try.ntmps113 rfl (goFn_of Try.func113 rfl (by kernel_rfl)) rfl rfl rfl rfl rfl rfl rfl rfl (by simp_all) rfl ?_
      ((repeat' (first
    | (show SQ _ _ _ _ _ _ _ _; first | apply sq_nil | (apply q_move; exact rfl; exact rfl) | (apply q_assign; exact rfl; exact rfl) | (apply q_fieldAddr; exact rfl; exact rfl; exact (ty rfl); iterate 4 exact rfl) | (apply q_lenl; exact rfl; exact rfl; exact (ty rfl); exact rfl) | (apply q_eql; iterate 3 exact rfl) | (apply q_gtr; iterate 3 exact rfl) | (apply q_ld1p; exact rfl; exact rfl; exact (ty rfl); exact rfl; exact rfl; exact (by first | rfl | assumption | ((try simp only [Nat.zero_add]); refine List.getElem?_set_self ?_; (try simp only [List.length_set]); assumption)); exact rfl))
    | (show SQ _ _ _ _ _ _ _ _; (first | (apply q_ldap; exact rfl; exact rfl; exact (ty rfl); exact rfl; exact rfl; exact (by first | rfl | assumption | ((try simp only [Nat.zero_add]); refine List.getElem?_set_self ?_; (try simp only [List.length_set]); assumption)); exact rfl) | (apply q_alloc; exact rfl; exact (ty rfl); exact rfl; exact rfl) | (apply q_store; exact rfl; exact rfl; exact (ty rfl); exact rfl; exact (by first | rfl | assumption | ((try simp only [Nat.zero_add]); refine List.getElem?_set_self ?_; (try simp only [List.length_set]); assumption)); iterate 3 exact rfl) | (apply q_callC; (iterate 3 exact rfl); exact h1 0 _; (focus ((repeat (first | exact trivial | refine ⟨by first | exact rfl | assumption, ?_⟩)); done)); skip) | (apply q_callC; (iterate 3 exact rfl); exact h2 0 _; (focus ((repeat (first | exact trivial | refine ⟨by first | exact rfl | assumption, ?_⟩)); done)); skip)); (try simp only [put, rowsOf, plR, selE, ovr, setH, del, cellsA, splice, isV, spq, if_true, if_false]))
    | (show AW _ _ _ _ _ _ _ _; first | refine aw_region ?_ | (refine aw_seqk ?_; intro K hK) | refine aw_block ?_ | (apply aw_cond_t; exact rfl; exact rfl) | (apply aw_cond_f; exact rfl; exact rfl) | (apply aw_cond_f; exact rfl; exact (by assumption)) | refine aw_ret ?_ | refine aw_skip ?_)
    | refine thn_n ?_
    | (refine hK _ _ _ ?_; clear hK K)
    | refine inb_n ?_)); all_goals (repeat (clear hK K)))
      exact finc (fun z => if z = 1 then 2 else z) (.r1 _ _ (.agg _ _ _ _ _ rfl (.inr ⟨_, _, _, _, _, rfl, rfl, rfl, rfl⟩) (ty rfl) rfl (Nat.le_of_ble_eq_true rfl))) rfl (fun z hz => by simp at hz; simp; omega) ⟨rfl, rfl, trivial⟩ rfl
  by_cases c2 : p = 2
  · subst c2
    have b0 : ((2 : Int) == 0) = false := rfl
    have b1 : ((2 : Int) == 1) = false := rfl
    have b2 : ((2 : Int) == 2) = true := rfl
    by_cases d : 0 < ls.length
    · have b5 : decide ((0 : Int) < (ls.length : Int)) = true := by simpa using d
      have g2 := fun id => pick_rc id s2 (ls.length : Int) (hok2.mono (by omega)) (by omega)
      have hok3 := pk_ok (ls.length : Int) hok2
      have bd3 := pk_bd s2 (ls.length : Int) (by omega)
      generalize pk s2 (ls.length : Int) = Q at *
      obtain ⟨q, s3⟩ := Q
      dsimp only at g2 hok3 bd3
      obtain ⟨q, rfl⟩ := Int.eq_ofNat_of_zero_le bd3.1
      have hq : q < ls.length := by omega
      have hrow2 : (ls.map lnL)[0 + ((q : Int)).toNat]? = some (lnL ls[q]) := by simp [hq]
      have hrow3 : (ls.map lnL)[((q : Int)).toNat]? = some (lnL ls[q]) := by simp [hq]
      rw [lnL_eq] at hrow2 hrow3
      have hlen2 : ((q : Int)).toNat < (ls.map lnL).length := by simpa using hq
      have a1 := among_rc 0 4 s3 [0, 1000000, 1000001] (by decide) (hok3.mono (by omega)) (by simp) (by simp)
      have hok4 := am_ok [0, 1000000, 1000001] hok3
      generalize am [0, 1000000, 1000001] s3 = A at *
      obtain ⟨v, s4⟩ := A
      dsimp only at a1 hok4
      simp only [nuR, List.map_cons, List.map_nil, List.length_cons, List.length_nil] at a1
      have hset : (ls.set q ⟨ls[q].a, ls[q].b, ls[q].o, v⟩).map lnL = (ls.map lnL).set q (lnL ⟨ls[q].a, ls[q].b, ls[q].o, v⟩) := List.map_set
      rw [lnL_eq] at hset
      dsimp only at hset
      refine ⟨n, ls.set q ⟨ls[q].a, ls[q].b, ls[q].o, v⟩, s4, by omega, by simpa using hL, hok4.mono (by omega), fun j id => ?_⟩
      rw [List.length_set, hset]
      refine RC.ofc [id] 1 [.ptr 0 0 0] [(0, ⟨133, 3, false, [srR s]⟩)] (.agg [.v (.int .i64 n), .sl 1 0 ls.length]) [(0, some ⟨133, 3, false, [srR s4]⟩), (1, some ⟨56, 4, true, (ls.map lnL).set q [.v (.int .i64 ls[q].a), .v (.int .i64 ls[q].b), .v (.int .i64 ls[q].o), .v (.int .i64 v)]⟩)] Try.func113 Try.ntmps113 rfl (goFn_of Try.func113 rfl (by kernel_rfl)) rfl rfl rfl rfl rfl rfl rfl rfl (by simp_all) rfl ?_
      ((repeat' (first
    | (show SQ _ _ _ _ _ _ _ _; first | apply sq_nil | (apply q_move; exact rfl; exact rfl) | (apply q_assign; exact rfl; exact rfl) | (apply q_fieldAddr; exact rfl; exact rfl; exact (ty rfl); iterate 4 exact rfl) | (apply q_lenl; exact rfl; exact rfl; exact (ty rfl); exact rfl) | (apply q_eql; iterate 3 exact rfl) | (apply q_gtr; iterate 3 exact rfl) | (apply q_ld1p; exact rfl; exact rfl; exact (ty rfl); exact rfl; exact rfl; exact (by first | rfl | assumption | ((try simp only [Nat.zero_add]); refine List.getElem?_set_self ?_; (try simp only [List.length_set]); assumption)); exact rfl))
    | (show SQ _ _ _ _ _ _ _ _; (first | (apply q_ldap; exact rfl; exact rfl; exact (ty rfl); exact rfl; exact rfl; exact (by first | rfl | assumption | ((try simp only [Nat.zero_add]); refine List.getElem?_set_self ?_; (try simp only [List.length_set]); assumption)); exact rfl) | (apply q_alloc; exact rfl; exact (ty rfl); exact rfl; exact rfl) | (apply q_store; exact rfl; exact rfl; exact (ty rfl); exact rfl; exact (by first | rfl | assumption | ((try simp only [Nat.zero_add]); refine List.getElem?_set_self ?_; (try simp only [List.length_set]); assumption)); iterate 3 exact rfl) | (apply q_callC; (iterate 3 exact rfl); exact h1 0 _; (focus ((repeat (first | exact trivial | refine ⟨by first | exact rfl | assumption, ?_⟩)); done)); skip) | (apply q_callC; (iterate 3 exact rfl); exact h2 0 _; (focus ((repeat (first | exact trivial | refine ⟨by first | exact rfl | assumption, ?_⟩)); done)); skip) | (apply q_callC; (iterate 3 exact rfl); exact g2 0 _; (focus ((repeat (first | exact trivial | refine ⟨by first | exact rfl | assumption, ?_⟩)); done)); skip)); (try simp only [put, rowsOf, plR, selE, ovr, setH, del, cellsA, splice, isV, spq, if_true, if_false]))
    | (show DE _ _ _ _ _ _ _ _ _ _ _ _; first | (apply e_move; iterate 3 exact rfl) | (apply e_fieldAddr; exact rfl; exact rfl; exact (ty rfl); iterate 5 exact rfl) | (apply e_ixl; (iterate 3 exact rfl); exact (ty rfl); (iterate 3 exact rfl); exact (by first | omega | (simp; done) | (simp; omega)); exact (by first | omega | (simp; done) | (simp; omega)); exact rfl))
    | (show DE _ _ _ _ _ _ _ _ _ _ _ _; (first | (apply dr_nil; (focus ((repeat (first | exact trivial | exact Or.inr rfl | exact Or.inl (by kernel_rfl) | apply And.intro)); done))) | (apply e_rd1; exact rfl; exact rfl; exact (ty rfl); exact rfl; exact rfl; exact (by first | rfl | assumption | ((try simp only [Nat.zero_add]); refine List.getElem?_set_self ?_; (try simp only [List.length_set]); assumption)); iterate 3 exact rfl) | (apply e_store; exact rfl; exact rfl; exact (ty rfl); exact rfl; exact (by first | rfl | assumption | ((try simp only [Nat.zero_add]); refine List.getElem?_set_self ?_; (try simp only [List.length_set]); assumption)); iterate 4 exact rfl) | (apply e_buildn; exact rfl; exact (ty rfl); iterate 8 exact rfl) | (apply e_callC; (iterate 3 exact rfl); exact a1 _; (focus ((repeat (first | exact trivial | refine ⟨by first | exact rfl | assumption, ?_⟩)); done)); exact rfl; skip)); (try simp only [put, rowsOf, plR, selE, ovr, setH, del, cellsA, splice, isV, spq, if_true, if_false]))
    | (show AW _ _ _ _ _ _ _ _; first | refine aw_region ?_ | (refine aw_seqk ?_; intro K hK) | refine aw_block ?_ | (apply aw_cond_t; exact rfl; exact rfl) | (apply aw_cond_f; exact rfl; exact rfl) | (apply aw_cond_t; exact rfl; exact (by assumption)) | refine aw_ret ?_ | refine aw_drawE (id := 13) [0, 1, 0, 0, 0, 24, 63, 127, 255] [0, 0, 0, 0, 1, 2, 1, 0, 2, 1, 3] mixed (by kernel_rfl) ?_)
    | refine thn_n ?_
    | (refine hK _ _ _ ?_; clear hK K)
    | refine inb_n ?_)); all_goals (repeat (clear hK K)))
      exact finc (fun z => if z = 1 then 2 else z) (.r1 _ _ (.agg _ _ _ _ _ rfl (.inr ⟨_, _, _, _, _, rfl, rfl, rfl, rfl⟩) (ty rfl) rfl (Nat.le_of_ble_eq_true rfl))) rfl (fun z hz => by simp at hz; simp; omega) ⟨rfl, rfl, trivial⟩ rfl
    · have b5 : decide ((0 : Int) < (ls.length : Int)) = false := by simpa using d
      refine plain fun j id => ?_
      refine RC.ofc [id] 1 [.ptr 0 0 0] [(0, ⟨133, 3, false, [srR s]⟩)] (.agg [.v (.int .i64 n), .sl 1 0 ls.length]) [(0, some ⟨133, 3, false, [srR s2]⟩), (1, some ⟨56, 4, true, ls.map lnL⟩)] Try.func113 Try.ntmps113 rfl (goFn_of Try.func113 rfl (by kernel_rfl)) rfl rfl rfl rfl rfl rfl rfl rfl (by simp_all) rfl ?_
      ((repeat' (first
    | (show SQ _ _ _ _ _ _ _ _; first | apply sq_nil | (apply q_move; exact rfl; exact rfl) | (apply q_assign; exact rfl; exact rfl) | (apply q_fieldAddr; exact rfl; exact rfl; exact (ty rfl); iterate 4 exact rfl) | (apply q_lenl; exact rfl; exact rfl; exact (ty rfl); exact rfl) | (apply q_eql; iterate 3 exact rfl) | (apply q_gtr; iterate 3 exact rfl) | (apply q_ld1p; exact rfl; exact rfl; exact (ty rfl); exact rfl; exact rfl; exact (by first | rfl | assumption | ((try simp only [Nat.zero_add]); refine List.getElem?_set_self ?_; (try simp only [List.length_set]); assumption)); exact rfl))
    | (show SQ _ _ _ _ _ _ _ _; (first | (apply q_ldap; exact rfl; exact rfl; exact (ty rfl); exact rfl; exact rfl; exact (by first | rfl | assumption | ((try simp only [Nat.zero_add]); refine List.getElem?_set_self ?_; (try simp only [List.length_set]); assumption)); exact rfl) | (apply q_alloc; exact rfl; exact (ty rfl); exact rfl; exact rfl) | (apply q_store; exact rfl; exact rfl; exact (ty rfl); exact rfl; exact (by first | rfl | assumption | ((try simp only [Nat.zero_add]); refine List.getElem?_set_self ?_; (try simp only [List.length_set]); assumption)); iterate 3 exact rfl) | (apply q_callC; (iterate 3 exact rfl); exact h1 0 _; (focus ((repeat (first | exact trivial | refine ⟨by first | exact rfl | assumption, ?_⟩)); done)); skip) | (apply q_callC; (iterate 3 exact rfl); exact h2 0 _; (focus ((repeat (first | exact trivial | refine ⟨by first | exact rfl | assumption, ?_⟩)); done)); skip)); (try simp only [put, rowsOf, plR, selE, ovr, setH, del, cellsA, splice, isV, spq, if_true, if_false]))
    | (show AW _ _ _ _ _ _ _ _; first | refine aw_region ?_ | (refine aw_seqk ?_; intro K hK) | refine aw_block ?_ | (apply aw_cond_t; exact rfl; exact rfl) | (apply aw_cond_f; exact rfl; exact rfl) | (apply aw_cond_f; exact rfl; exact (by assumption)) | refine aw_ret ?_ | refine aw_skip ?_)
    | refine thn_n ?_
    | (refine hK _ _ _ ?_; clear hK K)
    | refine inb_n ?_)); all_goals (repeat (clear hK K)))
      exact finc (fun z => if z = 1 then 2 else z) (.r1 _ _ (.agg _ _ _ _ _ rfl (.inr ⟨_, _, _, _, _, rfl, rfl, rfl, rfl⟩) (ty rfl) rfl (Nat.le_of_ble_eq_true rfl))) rfl (fun z hz => by simp at hz; simp; omega) ⟨rfl, rfl, trivial⟩ rfl
  have plain2 : (p = 3 → ls.length ≤ 1) → ∃ n ls s', Bd s k n ls s' := fun hh => by
    have b0 : (p == 0) = false := by simpa using c0
    have b1 : (p == 1) = false := by simpa using c1
    have b2 : (p == 2) = false := by simpa using c2
    refine plain fun j id => ?_
    refine RC.ofc [id] 1 [.ptr 0 0 0] [(0, ⟨133, 3, false, [srR s]⟩)] (.agg [.v (.int .i64 n), .sl 1 0 ls.length]) [(0, some ⟨133, 3, false, [srR s2]⟩), (1, some ⟨56, 4, true, ls.map lnL⟩)] Try.func113 Try.ntmps113 rfl (goFn_of Try.func113 rfl (by kernel_rfl)) rfl rfl rfl rfl rfl rfl rfl rfl (by simp_all) rfl ?_
    by_cases c3 : p = 3
    · have b3 : (p == 3) = true := by simpa using c3
      have b5 : decide ((1 : Int) < (ls.length : Int)) = false := by have := hh c3; simp; omega
      ((repeat' (first
    | (show SQ _ _ _ _ _ _ _ _; first | apply sq_nil | (apply q_move; exact rfl; exact rfl) | (apply q_assign; exact rfl; exact rfl) | (apply q_fieldAddr; exact rfl; exact rfl; exact (ty rfl); iterate 4 exact rfl) | (apply q_lenl; exact rfl; exact rfl; exact (ty rfl); exact rfl) | (apply q_eql; iterate 3 exact rfl) | (apply q_gtr; iterate 3 exact rfl) | (apply q_ld1p; exact rfl; exact rfl; exact (ty rfl); exact rfl; exact rfl; exact (by first | rfl | assumption | ((try simp only [Nat.zero_add]); refine List.getElem?_set_self ?_; (try simp only [List.length_set]); assumption)); exact rfl))
    | (show SQ _ _ _ _ _ _ _ _; (first | (apply q_ldap; exact rfl; exact rfl; exact (ty rfl); exact rfl; exact rfl; exact (by first | rfl | assumption | ((try simp only [Nat.zero_add]); refine List.getElem?_set_self ?_; (try simp only [List.length_set]); assumption)); exact rfl) | (apply q_alloc; exact rfl; exact (ty rfl); exact rfl; exact rfl) | (apply q_store; exact rfl; exact rfl; exact (ty rfl); exact rfl; exact (by first | rfl | assumption | ((try simp only [Nat.zero_add]); refine List.getElem?_set_self ?_; (try simp only [List.length_set]); assumption)); iterate 3 exact rfl) | (apply q_callC; (iterate 3 exact rfl); exact h1 0 _; (focus ((repeat (first | exact trivial | refine ⟨by first | exact rfl | assumption, ?_⟩)); done)); skip) | (apply q_callC; (iterate 3 exact rfl); exact h2 0 _; (focus ((repeat (first | exact trivial | refine ⟨by first | exact rfl | assumption, ?_⟩)); done)); skip)); (try simp only [put, rowsOf, plR, selE, ovr, setH, del, cellsA, splice, isV, spq, if_true, if_false]))
    | (show AW _ _ _ _ _ _ _ _; first | refine aw_region ?_ | (refine aw_seqk ?_; intro K hK) | refine aw_block ?_ | (apply aw_cond_t; exact rfl; exact (by assumption)) | (apply aw_cond_f; exact rfl; exact (by assumption)) | refine aw_ret ?_ | refine aw_skip ?_)
    | refine thn_n ?_
    | (refine hK _ _ _ ?_; clear hK K)
    | refine inb_n ?_)); all_goals (repeat (clear hK K)))
      exact finc (fun z => if z = 1 then 2 else z) (.r1 _ _ (.agg _ _ _ _ _ rfl (.inr ⟨_, _, _, _, _, rfl, rfl, rfl, rfl⟩) (ty rfl) rfl (Nat.le_of_ble_eq_true rfl))) rfl (fun z hz => by simp at hz; simp; omega) ⟨rfl, rfl, trivial⟩ rfl
    · have b3 : (p == 3) = false := by simpa using c3
      ((repeat' (first
    | (show SQ _ _ _ _ _ _ _ _; first | apply sq_nil | (apply q_move; exact rfl; exact rfl) | (apply q_assign; exact rfl; exact rfl) | (apply q_fieldAddr; exact rfl; exact rfl; exact (ty rfl); iterate 4 exact rfl) | (apply q_lenl; exact rfl; exact rfl; exact (ty rfl); exact rfl) | (apply q_eql; iterate 3 exact rfl) | (apply q_ld1p; exact rfl; exact rfl; exact (ty rfl); exact rfl; exact rfl; exact (by first | rfl | assumption | ((try simp only [Nat.zero_add]); refine List.getElem?_set_self ?_; (try simp only [List.length_set]); assumption)); exact rfl))
    | (show SQ _ _ _ _ _ _ _ _; (first | (apply q_ldap; exact rfl; exact rfl; exact (ty rfl); exact rfl; exact rfl; exact (by first | rfl | assumption | ((try simp only [Nat.zero_add]); refine List.getElem?_set_self ?_; (try simp only [List.length_set]); assumption)); exact rfl) | (apply q_alloc; exact rfl; exact (ty rfl); exact rfl; exact rfl) | (apply q_store; exact rfl; exact rfl; exact (ty rfl); exact rfl; exact (by first | rfl | assumption | ((try simp only [Nat.zero_add]); refine List.getElem?_set_self ?_; (try simp only [List.length_set]); assumption)); iterate 3 exact rfl) | (apply q_callC; (iterate 3 exact rfl); exact h1 0 _; (focus ((repeat (first | exact trivial | refine ⟨by first | exact rfl | assumption, ?_⟩)); done)); skip) | (apply q_callC; (iterate 3 exact rfl); exact h2 0 _; (focus ((repeat (first | exact trivial | refine ⟨by first | exact rfl | assumption, ?_⟩)); done)); skip)); (try simp only [put, rowsOf, plR, selE, ovr, setH, del, cellsA, splice, isV, spq, if_true, if_false]))
    | (show AW _ _ _ _ _ _ _ _; first | refine aw_region ?_ | (refine aw_seqk ?_; intro K hK) | refine aw_block ?_ | (apply aw_cond_f; exact rfl; exact (by assumption)) | refine aw_ret ?_ | refine aw_skip ?_)
    | refine thn_n ?_
    | (refine hK _ _ _ ?_; clear hK K)
    | refine inb_n ?_)); all_goals (repeat (clear hK K)))
      exact finc (fun z => if z = 1 then 2 else z) (.r1 _ _ (.agg _ _ _ _ _ rfl (.inr ⟨_, _, _, _, _, rfl, rfl, rfl, rfl⟩) (ty rfl) rfl (Nat.le_of_ble_eq_true rfl))) rfl (fun z hz => by simp at hz; simp; omega) ⟨rfl, rfl, trivial⟩ rfl
  by_cases c3 : p = 3
  · by_cases d : 1 < ls.length
    · subst c3
      have b0 : ((3 : Int) == 0) = false := rfl
      have b1 : ((3 : Int) == 1) = false := rfl
      have b2 : ((3 : Int) == 2) = false := rfl
      have b3 : ((3 : Int) == 3) = true := rfl
      have b5 : decide ((1 : Int) < (ls.length : Int)) = true := by simp; omega
      have d0 : 0 < ls.length := by omega
      have hrow2 : (ls.map lnL)[0 + ((0 : Int)).toNat]? = some (lnL ls[0]) := by simp [d0]
      have hrow3 : (ls.map lnL)[0 + ((1 : Int)).toNat]? = some (lnL ls[1]) := by simp [d]
      rw [lnL_eq] at hrow2 hrow3
      have hlen2 : ((1 : Int)).toNat < (ls.map lnL).length := by simpa using d
      have hset : (ls.set 1 ls[0]).map lnL = (ls.map lnL).set 1 (lnL ls[0]) := List.map_set
      rw [lnL_eq] at hset
      refine ⟨n, ls.set 1 ls[0], s2, by omega, by simpa using hL, hok2.mono (by omega), fun j id => ?_⟩
      rw [List.length_set, hset]
      refine RC.ofc [id] 1 [.ptr 0 0 0] [(0, ⟨133, 3, false, [srR s]⟩)] (.agg [.v (.int .i64 n), .sl 1 0 ls.length]) [(0, some ⟨133, 3, false, [srR s2]⟩), (1, some ⟨56, 4, true, (ls.map lnL).set 1 [.v (.int .i64 ls[0].a), .v (.int .i64 ls[0].b), .v (.int .i64 ls[0].o), .v (.int .i64 ls[0].c)]⟩)] Try.func113 Try.ntmps113 rfl (goFn_of Try.func113 rfl (by kernel_rfl)) rfl rfl rfl rfl rfl rfl rfl rfl (by simp_all) rfl ?_
      ((repeat' (first
    | (show SQ _ _ _ _ _ _ _ _; first | apply sq_nil | (apply q_move; exact rfl; exact rfl) | (apply q_assign; exact rfl; exact rfl) | (apply q_fieldAddr; exact rfl; exact rfl; exact (ty rfl); iterate 4 exact rfl) | (apply q_lenl; exact rfl; exact rfl; exact (ty rfl); exact rfl) | (apply q_eql; iterate 3 exact rfl) | (apply q_gtr; iterate 3 exact rfl) | (apply q_ld1p; exact rfl; exact rfl; exact (ty rfl); exact rfl; exact rfl; exact (by first | rfl | assumption | ((try simp only [Nat.zero_add]); refine List.getElem?_set_self ?_; (try simp only [List.length_set]); assumption)); exact rfl))
    | (show SQ _ _ _ _ _ _ _ _; (first | (apply q_ldap; exact rfl; exact rfl; exact (ty rfl); exact rfl; exact rfl; exact (by first | rfl | assumption | ((try simp only [Nat.zero_add]); refine List.getElem?_set_self ?_; (try simp only [List.length_set]); assumption)); exact rfl) | (apply q_alloc; exact rfl; exact (ty rfl); exact rfl; exact rfl) | (apply q_store; exact rfl; exact rfl; exact (ty rfl); exact rfl; exact (by first | rfl | assumption | ((try simp only [Nat.zero_add]); refine List.getElem?_set_self ?_; (try simp only [List.length_set]); assumption)); iterate 3 exact rfl) | (apply q_callC; (iterate 3 exact rfl); exact h1 0 _; (focus ((repeat (first | exact trivial | refine ⟨by first | exact rfl | assumption, ?_⟩)); done)); skip) | (apply q_callC; (iterate 3 exact rfl); exact h2 0 _; (focus ((repeat (first | exact trivial | refine ⟨by first | exact rfl | assumption, ?_⟩)); done)); skip)); (try simp only [put, rowsOf, plR, selE, ovr, setH, del, cellsA, splice, isV, spq, if_true, if_false]))
    | (show DE _ _ _ _ _ _ _ _ _ _ _ _; first | (apply e_fieldAddr; exact rfl; exact rfl; exact (ty rfl); iterate 5 exact rfl) | (apply e_ixl; (iterate 3 exact rfl); exact (ty rfl); (iterate 3 exact rfl); exact (by first | omega | (simp; done) | (simp; omega)); exact (by first | omega | (simp; done) | (simp; omega)); exact rfl) | (apply e_ld1p; exact rfl; exact rfl; exact (ty rfl); exact rfl; exact rfl; exact (by first | rfl | assumption | ((try simp only [Nat.zero_add]); refine List.getElem?_set_self ?_; (try simp only [List.length_set]); assumption)); exact rfl; exact rfl))
    | (show DE _ _ _ _ _ _ _ _ _ _ _ _; (first | (apply dr_nil; exact trivial) | (apply e_ldap; exact rfl; exact rfl; exact (ty rfl); exact rfl; exact rfl; exact (by first | rfl | assumption | ((try simp only [Nat.zero_add]); refine List.getElem?_set_self ?_; (try simp only [List.length_set]); assumption)); exact rfl; exact rfl) | (apply e_store; exact rfl; exact rfl; exact (ty rfl); exact rfl; exact (by first | rfl | assumption | ((try simp only [Nat.zero_add]); refine List.getElem?_set_self ?_; (try simp only [List.length_set]); assumption)); iterate 4 exact rfl)); (try simp only [put, rowsOf, plR, selE, ovr, setH, del, cellsA, splice, isV, spq, if_true, if_false]))
    | (show AW _ _ _ _ _ _ _ _; first | refine aw_region ?_ | (refine aw_seqk ?_; intro K hK) | refine aw_block ?_ | (apply aw_cond_t; exact rfl; exact rfl) | (apply aw_cond_f; exact rfl; exact rfl) | (apply aw_cond_t; exact rfl; exact (by assumption)) | refine aw_ret ?_ | refine aw_drawE (id := 16) [0, 1, 0, 4, 12, 28, 63, 127] [0, 1, 0, 1, 1, 1, 1, 2] mixed (by kernel_rfl) ?_)
    | refine thn_n ?_
    | (refine hK _ _ _ ?_; clear hK K)
    | refine inb_n ?_)); all_goals (repeat (clear hK K)))
      exact finc (fun z => if z = 1 then 2 else z) (.r1 _ _ (.agg _ _ _ _ _ rfl (.inr ⟨_, _, _, _, _, rfl, rfl, rfl, rfl⟩) (ty rfl) rfl (Nat.le_of_ble_eq_true rfl))) rfl (fun z hz => by simp at hz; simp; omega) ⟨rfl, rfl, trivial⟩ rfl
    · exact plain2 fun _ => by omega
  · exact plain2 fun h => absurd h c3
set_option maxHeartbeats 4000000 in
theorem l00Max_ro (a b : Int) (k : Nat) : RO Try.prog 83 [.v (.int .i64 a), .v (.int .i64 b)] k (.v (.int .i64 (if a < b then b else a))) [] k := by
  refine RO.ofv' Try.func83 Try.ntmps83 rfl (goFn_of Try.func83 rfl (by kernel_rfl)) rfl rfl ?_
  ((repeat' (first
    | (show SQ _ _ _ _ _ _ _ _; first | apply sq_nil | (apply q_move; exact rfl; exact rfl) | (apply q_assign; exact rfl; exact rfl) | (apply q_gtr; iterate 3 exact rfl))
    | (show AW _ _ _ _ _ _ _ _; first | refine aw_region ?_ | (refine aw_seqk ?_; intro K hK) | refine aw_ret ?_ | refine aw_skip ?_ | (apply aw_ite; exact rfl; all_goals intro h))
    | refine thn_n ?_
    | (refine hK _ _ _ ?_; clear hK K)
    | refine thn_r ?_)); all_goals (repeat (clear hK K)))
  all_goals refine fin_r (fin_i rfl ?_)
  all_goals simp_all
  all_goals (intros; omega)
structure Bt (s : Sr) (k n : Int) (ls : List Ln) (a b : Int) (s' : Sr) : Prop where
  nb : n ≤ 100
  le : ls.length ≤ 32
  ok : s'.ok (k + 2200)
  rc : ∀ j id, RC Try.prog 80 [.ptr id 0 0] [(id, ⟨133, 3, false, [srR s]⟩)] j (.tup [.agg [.v (.int .i64 n), .sl j 0 ls.length], .v (.int .i64 a), .v (.int .i64 b)]) [(id, some ⟨133, 3, false, [srR s']⟩), (j, some ⟨56, 4, true, ls.map lnL⟩)] (j + 1)
theorem l25DrawTwo_ex {s : Sr} {k : Int} (h : s.ok k) (hk : k ≤ 80000) : ∃ n ls a b s', Bt s k n ls a b s' := by
  obtain ⟨n, ls, s1, h1⟩ := l25Draw_ex h (by omega)
  have hM := l00Max_ro n 1
  have hm : 1 ≤ (if n < 1 then 1 else n) ∧ (if n < 1 then 1 else n) ≤ 100 := by have := h1.nb; split <;> omega
  generalize (if n < 1 then 1 else n) = m at hM hm
  have h2 := fun id => pick_rc id s1 m (h1.ok.mono (by omega)) (by omega)
  have hok2 := pk_ok m h1.ok
  generalize pk s1 m = P at *
  obtain ⟨a, s2⟩ := P
  dsimp only at h2 hok2
  have h3 := fun id => pick_rc id s2 m (hok2.mono (by omega)) (by omega)
  have hok3 := pk_ok m hok2
  generalize pk s2 m = P at *
  obtain ⟨b, s3⟩ := P
  dsimp only at h3 hok3
  have h4 := fun id => pick_rc id s3 14 (hok3.mono (by omega)) (by omega)
  have hok4 := pk_ok 14 hok3
  generalize pk s3 14 = P at *
  obtain ⟨p, s4⟩ := P
  dsimp only at h4 hok4
  have a1 := among_rc 0 4 s4 [-1, m] (by decide) (hok4.mono (by omega)) (by simp) (by simp)
  have hok5 := am_ok [-1, m] hok4
  generalize am [-1, m] s4 = A at *
  obtain ⟨v, s5⟩ := A
  dsimp only at a1 hok5
  simp only [nuR, List.map_cons, List.map_nil, List.length_cons, List.length_nil] at a1
  have r1 := h1.rc
  have hL := h1.le
  have hnb := h1.nb
  by_cases c0 : p = 0
  · have b0 : (p == 0) = true := by simpa using c0
    refine ⟨n, ls, v, b, s5, hnb, hL, hok5.mono (by omega), fun j id => ?_⟩
    refine RC.ofc [id] 1 [.ptr 0 0 0] [(0, ⟨133, 3, false, [srR s]⟩)] (.tup [.agg [.v (.int .i64 n), .sl 1 0 ls.length], .v (.int .i64 v), .v (.int .i64 b)]) [(0, some ⟨133, 3, false, [srR s5]⟩), (1, some ⟨56, 4, true, ls.map lnL⟩)] Try.func80 Try.ntmps80 rfl (goFn_of Try.func80 rfl (by kernel_rfl)) rfl rfl rfl rfl rfl rfl rfl rfl (by simp_all) rfl ?_
    ((repeat' (first
    | (show SQ _ _ _ _ _ _ _ _; first | apply sq_nil | (apply q_move; exact rfl; exact rfl) | (apply q_assign; exact rfl; exact rfl) | (apply q_fieldAddr; exact rfl; exact rfl; exact (ty rfl); iterate 4 exact rfl) | (apply q_eql; iterate 3 exact rfl) | (apply q_ld1p; exact rfl; exact rfl; exact (ty rfl); exact rfl; exact rfl; exact (by first | rfl | assumption | ((try simp only [Nat.zero_add]); refine List.getElem?_set_self ?_; (try simp only [List.length_set]); assumption)); exact rfl))
    | (show SQ _ _ _ _ _ _ _ _; (first | (apply q_ldap; exact rfl; exact rfl; exact (ty rfl); exact rfl; exact rfl; exact (by first | rfl | assumption | ((try simp only [Nat.zero_add]); refine List.getElem?_set_self ?_; (try simp only [List.length_set]); assumption)); exact rfl) | (apply q_alloc; exact rfl; exact (ty rfl); exact rfl; exact rfl) | (apply q_store; exact rfl; exact rfl; exact (ty rfl); exact rfl; exact (by first | rfl | assumption | ((try simp only [Nat.zero_add]); refine List.getElem?_set_self ?_; (try simp only [List.length_set]); assumption)); iterate 3 exact rfl) | (apply q_buildn; exact rfl; exact (ty rfl); iterate 7 exact rfl) | (apply q_callU; (iterate 3 exact rfl); exact FzL.of rfl; exact hM _) | (apply q_callC; (iterate 3 exact rfl); exact r1 _ 0; (focus ((repeat (first | exact trivial | refine ⟨by first | exact rfl | assumption, ?_⟩)); done)); skip) | (apply q_callC; (iterate 3 exact rfl); exact h2 0 _; (focus ((repeat (first | exact trivial | refine ⟨by first | exact rfl | assumption, ?_⟩)); done)); skip) | (apply q_callC; (iterate 3 exact rfl); exact h3 0 _; (focus ((repeat (first | exact trivial | refine ⟨by first | exact rfl | assumption, ?_⟩)); done)); skip) | (apply q_callC; (iterate 3 exact rfl); exact h4 0 _; (focus ((repeat (first | exact trivial | refine ⟨by first | exact rfl | assumption, ?_⟩)); done)); skip) | (apply q_callC; (iterate 3 exact rfl); exact a1 _; (focus ((repeat (first | exact trivial | refine ⟨by first | exact rfl | assumption, ?_⟩)); done)); skip)); (try simp only [put, rowsOf, plR, selE, ovr, setH, del, cellsA, splice, isV, spq, if_true, if_false]))
    | (show AW _ _ _ _ _ _ _ _; first | refine aw_region ?_ | (refine aw_seqk ?_; intro K hK) | refine aw_block ?_ | (apply aw_cond_t; exact rfl; exact (by assumption)) | refine aw_ret ?_)
    | refine thn_n ?_
    | (refine hK _ _ _ ?_; clear hK K)
    | refine inb_n ?_)); all_goals (repeat (clear hK K)))
    exact finc (fun z => if z = 1 then 2 else z) (.r3 _ _ _ _ _ _ (.agg _ _ _ _ _ rfl (.inr ⟨_, _, _, _, _, rfl, rfl, rfl, rfl⟩) (ty rfl) rfl (Nat.le_of_ble_eq_true rfl)) (.tmp _ _ rfl) (.tmp _ _ rfl)) rfl (fun z hz => by simp at hz; simp; omega) ⟨rfl, rfl, trivial⟩ rfl
  have b0 : (p == 0) = false := by simpa using c0
  by_cases c1 : p = 1
  · have b1 : (p == 1) = true := by simpa using c1
    refine ⟨n, ls, a, v, s5, hnb, hL, hok5.mono (by omega), fun j id => ?_⟩
    refine RC.ofc [id] 1 [.ptr 0 0 0] [(0, ⟨133, 3, false, [srR s]⟩)] (.tup [.agg [.v (.int .i64 n), .sl 1 0 ls.length], .v (.int .i64 a), .v (.int .i64 v)]) [(0, some ⟨133, 3, false, [srR s5]⟩), (1, some ⟨56, 4, true, ls.map lnL⟩)] Try.func80 Try.ntmps80 rfl (goFn_of Try.func80 rfl (by kernel_rfl)) rfl rfl rfl rfl rfl rfl rfl rfl (by simp_all) rfl ?_
    ((repeat' (first
    | (show SQ _ _ _ _ _ _ _ _; first | apply sq_nil | (apply q_move; exact rfl; exact rfl) | (apply q_assign; exact rfl; exact rfl) | (apply q_fieldAddr; exact rfl; exact rfl; exact (ty rfl); iterate 4 exact rfl) | (apply q_eql; iterate 3 exact rfl) | (apply q_ld1p; exact rfl; exact rfl; exact (ty rfl); exact rfl; exact rfl; exact (by first | rfl | assumption | ((try simp only [Nat.zero_add]); refine List.getElem?_set_self ?_; (try simp only [List.length_set]); assumption)); exact rfl))
    | (show SQ _ _ _ _ _ _ _ _; (first | (apply q_ldap; exact rfl; exact rfl; exact (ty rfl); exact rfl; exact rfl; exact (by first | rfl | assumption | ((try simp only [Nat.zero_add]); refine List.getElem?_set_self ?_; (try simp only [List.length_set]); assumption)); exact rfl) | (apply q_alloc; exact rfl; exact (ty rfl); exact rfl; exact rfl) | (apply q_store; exact rfl; exact rfl; exact (ty rfl); exact rfl; exact (by first | rfl | assumption | ((try simp only [Nat.zero_add]); refine List.getElem?_set_self ?_; (try simp only [List.length_set]); assumption)); iterate 3 exact rfl) | (apply q_buildn; exact rfl; exact (ty rfl); iterate 7 exact rfl) | (apply q_callU; (iterate 3 exact rfl); exact FzL.of rfl; exact hM _) | (apply q_callC; (iterate 3 exact rfl); exact r1 _ 0; (focus ((repeat (first | exact trivial | refine ⟨by first | exact rfl | assumption, ?_⟩)); done)); skip) | (apply q_callC; (iterate 3 exact rfl); exact h2 0 _; (focus ((repeat (first | exact trivial | refine ⟨by first | exact rfl | assumption, ?_⟩)); done)); skip) | (apply q_callC; (iterate 3 exact rfl); exact h3 0 _; (focus ((repeat (first | exact trivial | refine ⟨by first | exact rfl | assumption, ?_⟩)); done)); skip) | (apply q_callC; (iterate 3 exact rfl); exact h4 0 _; (focus ((repeat (first | exact trivial | refine ⟨by first | exact rfl | assumption, ?_⟩)); done)); skip) | (apply q_callC; (iterate 3 exact rfl); exact a1 _; (focus ((repeat (first | exact trivial | refine ⟨by first | exact rfl | assumption, ?_⟩)); done)); skip)); (try simp only [put, rowsOf, plR, selE, ovr, setH, del, cellsA, splice, isV, spq, if_true, if_false]))
    | (show AW _ _ _ _ _ _ _ _; first | refine aw_region ?_ | (refine aw_seqk ?_; intro K hK) | refine aw_block ?_ | (apply aw_cond_t; exact rfl; exact (by assumption)) | (apply aw_cond_f; exact rfl; exact (by assumption)) | refine aw_ret ?_)
    | refine thn_n ?_
    | (refine hK _ _ _ ?_; clear hK K)
    | refine inb_n ?_)); all_goals (repeat (clear hK K)))
    exact finc (fun z => if z = 1 then 2 else z) (.r3 _ _ _ _ _ _ (.agg _ _ _ _ _ rfl (.inr ⟨_, _, _, _, _, rfl, rfl, rfl, rfl⟩) (ty rfl) rfl (Nat.le_of_ble_eq_true rfl)) (.tmp _ _ rfl) (.tmp _ _ rfl)) rfl (fun z hz => by simp at hz; simp; omega) ⟨rfl, rfl, trivial⟩ rfl
  · have b1 : (p == 1) = false := by simpa using c1
    refine ⟨n, ls, a, b, s4, hnb, hL, hok4.mono (by omega), fun j id => ?_⟩
    refine RC.ofc [id] 1 [.ptr 0 0 0] [(0, ⟨133, 3, false, [srR s]⟩)] (.tup [.agg [.v (.int .i64 n), .sl 1 0 ls.length], .v (.int .i64 a), .v (.int .i64 b)]) [(0, some ⟨133, 3, false, [srR s4]⟩), (1, some ⟨56, 4, true, ls.map lnL⟩)] Try.func80 Try.ntmps80 rfl (goFn_of Try.func80 rfl (by kernel_rfl)) rfl rfl rfl rfl rfl rfl rfl rfl (by simp_all) rfl ?_
    ((repeat' (first
    | (show SQ _ _ _ _ _ _ _ _; first | apply sq_nil | (apply q_move; exact rfl; exact rfl) | (apply q_assign; exact rfl; exact rfl) | (apply q_fieldAddr; exact rfl; exact rfl; exact (ty rfl); iterate 4 exact rfl) | (apply q_eql; iterate 3 exact rfl) | (apply q_ld1p; exact rfl; exact rfl; exact (ty rfl); exact rfl; exact rfl; exact (by first | rfl | assumption | ((try simp only [Nat.zero_add]); refine List.getElem?_set_self ?_; (try simp only [List.length_set]); assumption)); exact rfl))
    | (show SQ _ _ _ _ _ _ _ _; (first | (apply q_ldap; exact rfl; exact rfl; exact (ty rfl); exact rfl; exact rfl; exact (by first | rfl | assumption | ((try simp only [Nat.zero_add]); refine List.getElem?_set_self ?_; (try simp only [List.length_set]); assumption)); exact rfl) | (apply q_alloc; exact rfl; exact (ty rfl); exact rfl; exact rfl) | (apply q_store; exact rfl; exact rfl; exact (ty rfl); exact rfl; exact (by first | rfl | assumption | ((try simp only [Nat.zero_add]); refine List.getElem?_set_self ?_; (try simp only [List.length_set]); assumption)); iterate 3 exact rfl) | (apply q_callU; (iterate 3 exact rfl); exact FzL.of rfl; exact hM _) | (apply q_callC; (iterate 3 exact rfl); exact r1 _ 0; (focus ((repeat (first | exact trivial | refine ⟨by first | exact rfl | assumption, ?_⟩)); done)); skip) | (apply q_callC; (iterate 3 exact rfl); exact h2 0 _; (focus ((repeat (first | exact trivial | refine ⟨by first | exact rfl | assumption, ?_⟩)); done)); skip) | (apply q_callC; (iterate 3 exact rfl); exact h3 0 _; (focus ((repeat (first | exact trivial | refine ⟨by first | exact rfl | assumption, ?_⟩)); done)); skip) | (apply q_callC; (iterate 3 exact rfl); exact h4 0 _; (focus ((repeat (first | exact trivial | refine ⟨by first | exact rfl | assumption, ?_⟩)); done)); skip)); (try simp only [put, rowsOf, plR, selE, ovr, setH, del, cellsA, splice, isV, spq, if_true, if_false]))
    | (show AW _ _ _ _ _ _ _ _; first | refine aw_region ?_ | (refine aw_seqk ?_; intro K hK) | refine aw_block ?_ | (apply aw_cond_f; exact rfl; exact (by assumption)) | refine aw_ret ?_ | refine aw_skip ?_)
    | refine thn_n ?_
    | (refine hK _ _ _ ?_; clear hK K)
    | refine inb_n ?_)); all_goals (repeat (clear hK K)))
    exact finc (fun z => if z = 1 then 2 else z) (.r3 _ _ _ _ _ _ (.agg _ _ _ _ _ rfl (.inr ⟨_, _, _, _, _, rfl, rfl, rfl, rfl⟩) (ty rfl) rfl (Nat.le_of_ble_eq_true rfl)) (.tmp _ _ rfl) (.tmp _ _ rfl)) rfl (fun z hz => by simp at hz; simp; omega) ⟨rfl, rfl, trivial⟩ rfl
theorem DrawRouteOf_ex (bs : List Int) (hb : ∀ b ∈ bs, 0 ≤ b ∧ b ≤ 255) (hn : bs.length ≤ 9223372036854775807) : ∃ (n : Int) (ls : List Ln) (a b : Int), n ≤ 100 ∧ ls.length ≤ 32 ∧
    ∀ k, RC Try.prog 38 [.dsl 1 (byL bs)] [] k (.tup [.agg [.v (.int .i64 n), .sl k 0 ls.length], .v (.int .i64 a), .v (.int .i64 b)]) [(k, some ⟨56, 4, true, ls.map lnL⟩)] (k + 1) := by
  have hok : (⟨bs, 0, 0⟩ : Sr).ok 0 := ⟨hb, by simp, by simp, hn⟩
  obtain ⟨n, ls, a, b, s', h⟩ := l25DrawTwo_ex hok (by omega)
  have r1 := h.rc
  refine ⟨n, ls, a, b, h.nb, h.le, fun k => ?_⟩
  refine RC.ofc [] 1 [.dsl 1 (byL bs)] [] (.tup [.agg [.v (.int .i64 n), .sl 0 0 ls.length], .v (.int .i64 a), .v (.int .i64 b)]) [(0, some ⟨56, 4, true, ls.map lnL⟩)] Try.func38 Try.ntmps38 rfl (goFn_of Try.func38 rfl (by kernel_rfl)) rfl rfl rfl rfl rfl rfl rfl rfl (by simp_all) rfl ?_
  ((repeat' (first
    | (show SQ _ _ _ _ _ _ _ _; first | apply sq_nil | (apply q_move; exact rfl; exact rfl) | (apply q_assign; exact rfl; exact rfl) | (apply q_ext; iterate 3 exact rfl))
    | (show SQ _ _ _ _ _ _ _ _; (first | (apply q_alloc; exact rfl; exact (ty rfl); exact rfl; exact rfl) | (apply q_store; exact rfl; exact rfl; exact (ty rfl); exact rfl; exact (by first | rfl | assumption | ((try simp only [Nat.zero_add]); refine List.getElem?_set_self ?_; (try simp only [List.length_set]); assumption)); iterate 3 exact rfl) | (apply q_callC; (iterate 3 exact rfl); exact l00From_rc bs _; (focus ((repeat (first | exact trivial | refine ⟨by first | exact rfl | assumption, ?_⟩)); done)); skip) | (apply q_callC; (iterate 3 exact rfl); exact r1 _ 1; (focus ((repeat (first | exact trivial | refine ⟨by first | exact rfl | assumption, ?_⟩)); done)); skip)); (try simp only [put, rowsOf, plR, selE, ovr, setH, del, cellsA, splice, isV, spq, if_true, if_false]))
    | (show AW _ _ _ _ _ _ _ _; first | refine aw_region ?_ | (refine aw_seqk ?_; intro K hK) | refine aw_ret ?_)
    | refine thn_n ?_
    | (refine hK _ _ _ ?_; clear hK K))); all_goals (repeat (clear hK K)))
  exact finc (fun z => 2) (.r3 _ _ _ _ _ _ (.agg _ _ _ _ _ rfl (.inr ⟨_, _, _, _, _, rfl, rfl, rfl, rfl⟩) (ty rfl) rfl (Nat.le_of_ble_eq_true rfl)) (.tmp _ _ rfl) (.tmp _ _ rfl)) rfl (fun z hz => by simp at hz) ⟨rfl, trivial⟩ rfl
end Go.Proofs.Ytglfcaioapdiaaa.Bk

namespace Go.Proofs.Ytglfcaioapdiaaa.Bk
open Go Go.RowKit Go.Proofs.Ytglfcaioapdiaaa.Aw
set_option linter.unusedSimpArgs false
set_option linter.unusedVariables false
attribute [local irreducible] AW SQ Step RO RC DE Thn InB
theorem bkB_n {n : Int} {ls : List Ln} (h : bkB n ls = true) : 1 ≤ n ∧ n ≤ 12 := by
  simp only [bkB, Bool.and_eq_true, inB, decide_eq_true_eq] at h
  exact h.1.1
set_option maxHeartbeats 4000000 in
theorem implLinks_ok_ro (n : Int) (ls : List Ln) (rd : List Int) (hn : ls.length ≤ 1048576) (hr : rd.length ≤ 1048576) (h : bkB n ls = true) (h2 : rtB n ls rd = true) (k : Nat) :
    RO Try.prog 34 [.agg (bkL n ls), .dsl 1 (rd.map inL)] k (.tup [.sl k 0 (rtI ls rd rd.length).length, .v (.int .i64 0)]) [(k, ⟨2, 1, true, (rtI ls rd rd.length).map inL⟩)] (k + 1) := by
  have b1 : (!bkB n ls) = false := by rw [h]; rfl
  refine RO.ofm (.tup [.sl 0 0 (rtI ls rd rd.length).length, .v (.int .i64 0)]) ([(0, ⟨2, 1, true, (rtI ls rd rd.length).map inL⟩)]) 1 Try.func34 Try.ntmps34 rfl (goFn_of Try.func34 rfl (by kernel_rfl)) rfl rfl (by simp [renA, renL]) (by simp [shH, renB]) rfl ?_
  unfold bkL
  ((repeat' (first
    | (show SQ _ _ _ _ _ _ _ _; first | apply sq_nil | (apply q_move; exact rfl; exact rfl) | (apply q_assign; exact rfl; exact rfl) | (apply q_not; exact rfl; exact rfl) | (apply q_ext; iterate 3 exact rfl))
    | (show SQ _ _ _ _ _ _ _ _; (first | (apply q_ldap; exact rfl; exact rfl; exact (ty rfl); exact rfl; exact rfl; exact (by first | rfl | assumption | ((try simp only [Nat.zero_add]); refine List.getElem?_set_self ?_; (try simp only [List.length_set]); assumption)); exact rfl) | (apply q_box; iterate 3 exact rfl) | (apply q_callU; (iterate 3 exact rfl); exact FzL.of rfl; exact ValidBackhaul_ro n ls hn _) | (apply q_callU; (iterate 3 exact rfl); exact FzL.of rfl; exact linksOf_ok_ro n ls rd (bkB_n h) hn hr h2 _)); (try simp only [put, rowsOf, plR, selE, ovr, setH, del, cellsA, splice, isV, spq, if_true, if_false]))
    | (show AW _ _ _ _ _ _ _ _; first | refine aw_region ?_ | (refine aw_seqk ?_; intro K hK) | (apply aw_cond_f; exact rfl; exact rfl) | (apply aw_cond_f; exact rfl; exact (by assumption)) | refine aw_ret ?_ | refine aw_skip ?_)
    | refine thn_n ?_
    | (refine hK _ _ _ ?_; clear hK K))); all_goals (repeat (clear hK K)))
  all_goals exact fin_r (fin_m2 rfl rfl rfl _ _ rfl rfl rfl)
end Go.Proofs.Ytglfcaioapdiaaa.Bk

namespace Go.Proofs.Ytglfcaioapdiaaa.Bk
open Go Go.RowKit Go.Proofs.Ytglfcaioapdiaaa.Aw Go.Proofs.Ytglfcaioapdiaaa.Sr
set_option linter.unusedSimpArgs false
set_option linter.unusedVariables false
attribute [local irreducible] AW SQ Step RO RC DE Thn InB
theorem cstI_bd {ls : List Ln} (hL : ∀ l ∈ ls, 0 ≤ l.o ∧ l.o ≤ 1000000) : ∀ ix : List Int, (∀ x ∈ ix, 0 ≤ x ∧ x < ls.length) → 0 ≤ cstI ls ix ∧ cstI ls ix ≤ 1000000 * (ix.length : Int)
  | [], _ => by simp [cstI]
  | x :: ix, h => by
    obtain ⟨g1, g2⟩ := cstI_bd hL ix fun y hy => h y (List.mem_cons_of_mem _ hy)
    obtain ⟨h1, h2⟩ := h x List.mem_cons_self
    have hx : ls.getD x.toNat lnz ∈ ls := by simp [List.getD, show x.toNat < ls.length by omega]
    have := hL _ hx
    have e : cstI ls (x :: ix) = (ls.getD x.toNat lnz).o + cstI ls ix := by simp [cstI]
    rw [e, List.length_cons]
    omega
theorem cstI_succ {ls : List Ln} {ix : List Int} {i : Nat} (h : i < ix.length) : cstI ls (ix.take (i + 1)) = cstI ls (ix.take i) + (ls.getD ix[i].toNat lnz).o := by
  rw [List.take_succ_eq_append_getElem h, cstI_app]; simp [cstI]
set_option maxHeartbeats 4000000 in
theorem b10Cost_ro (n : Int) (ls : List Ln) (rd : List Int) (hn : ls.length ≤ 1048576) (hr : rd.length ≤ 1000) (hb : bkB n ls = true) (hL : LnsOk n ls) (h2 : rtB n ls rd = true) (k : Nat) :
    RO Try.prog 37 [.agg (bkL n ls), .dsl 1 (rd.map inL)] k (.v (.int .i64 (cstI ls (rtI ls rd rd.length)))) [] k := by
  have hLk := implLinks_ok_ro n ls rd hn (by omega) hb h2
  have hix := rtI_in' h2
  have hlen := rtI_len ls rd rd.length
  generalize rtI ls rd rd.length = ix at *
  have hil : ix.length ≤ 1000 := by omega
  have b0 : ((0 : Int) != 0) = false := rfl
  have hml : (ls.map lnL).length = ls.length := List.length_map _
  have hsum0 : cstI ls (ix.take 0) = 0 := rfl
  unfold bkL at hLk ⊢
  refine RO.ofv' Try.func37 Try.ntmps37 rfl (goFn_of Try.func37 rfl (by kernel_rfl)) rfl rfl ?_
  ((repeat' (first
    | (show SQ _ _ _ _ _ _ _ _; first | apply sq_nil | (apply q_move; exact rfl; exact rfl) | (apply q_assign; exact rfl; exact rfl) | (apply q_ext; iterate 3 exact rfl) | (apply q_neq; iterate 3 exact rfl))
    | (show SQ _ _ _ _ _ _ _ _; (first | (apply q_ldap; exact rfl; exact rfl; exact (ty rfl); exact rfl; exact rfl; exact (by first | rfl | assumption | ((try simp only [Nat.zero_add]); refine List.getElem?_set_self ?_; (try simp only [List.length_set]); assumption)); exact rfl) | (apply q_box; iterate 3 exact rfl) | (apply q_callU; (iterate 3 exact rfl); exact FzL.of rfl; exact hLk _)); (try simp only [put, rowsOf, plR, selE, ovr, setH, del, cellsA, splice, isV, spq, if_true, if_false]))
    | (show AW _ _ _ _ _ _ _ _; first | refine aw_region ?_ | (refine aw_seqk ?_; intro K hK) | refine aw_block ?_ | (apply aw_cond_f; exact rfl; exact rfl) | refine aw_skip ?_)
    | refine thn_n ?_
    | (refine hK _ _ _ ?_; clear hK K))); all_goals (repeat (clear hK K)))
  refine aw_loop (ρ := id) (ι := Nat) (fun i => ([(8, .v (.int .i64 i)), (7, .v (.int .i64 (cstI ls (ix.take i)))), (5, .sl 1 0 ix.length), (2, .ptr 0 0 0)], [(0, ⟨31, 2, false, [[.v (.int .i64 n), .dsl 4 (ls.map lnL)]]⟩), (1, ⟨2, 1, true, ix.map inL⟩)], 2))
    (fun i => i ≤ ix.length) (fun i => ix.length - i) 0 (Nat.zero_le _) ⟨by (repeat (refine ⟨by first | exact lk_i rfl rfl | exact lk_r rfl rfl rfl | exact lk_s rfl rfl rfl rfl, ?_⟩)); exact trivial, by (repeat (refine ⟨by first | exact ⟨rfl, rfl, rfl⟩, ?_⟩)); exact trivial, by rfl, by exact pin_0⟩ ?_
  intro i hi
  by_cases c1 : i < ix.length
  · have b1 : decide ((i : Int) < (ix.length : Int)) = true := by simpa using c1
    have hrow : (ix.map inL)[0 + ((i : Int)).toNat]? = some (inL ix[i]) := by simp [c1]
    rw [inL_eq] at hrow
    obtain ⟨x0, x1⟩ := hix ix[i] (List.getElem_mem c1)
    have x2 : ix[i].toNat < ls.length := by omega
    have hrow2 : (ls.map lnL)[(ix[i]).toNat]? = some (lnL ls[ix[i].toNat]) := by simp [x2]
    rw [lnL_eq] at hrow2
    have b2 : decide (ix[i] < 0) = false := by simpa using x0
    have b3 : decide (((ls.map lnL).length : Int) ≤ ix[i]) = false := by rw [hml]; simpa using x1
    have hw : IntKind.i64.wrap ((i : Int) + 1) = ((i + 1 : Nat) : Int) := by rw [IntWalk.i64_in _ (by omega)]; omega
    have hs := cstI_bd (fun l hl => (hL l hl).2.2) (ix.take i) fun y hy => hix y (List.mem_of_mem_take hy)
    have hlo := hL _ (List.getElem_mem x2)
    have ht : (ix.take i).length ≤ 1000 := by rw [List.length_take]; omega
    have e1 := cstI_succ (ls := ls) c1
    have eD : (ls.getD ix[i].toNat lnz).o = ls[ix[i].toNat].o := by simp [List.getD, x2]
    rw [eD] at e1
    have hw2 : IntKind.i64.wrap (cstI ls (ix.take i) + ls[ix[i].toNat].o) = cstI ls (ix.take (i + 1)) := by rw [e1]; exact IntWalk.i64_in _ (by omega)
    ((repeat' (first
    | (show SQ _ _ _ _ _ _ _ _; first | apply sq_nil | (apply q_move; exact rfl; exact rfl) | (apply q_assign; exact rfl; exact rfl) | (apply q_lenl; exact rfl; exact rfl; exact (ty rfl); exact rfl) | (apply q_add; iterate 3 exact rfl) | (apply q_lss; iterate 3 exact rfl))
    | (show DE _ _ _ _ _ _ _ _ _ _ _ _; first | (apply e_move; iterate 3 exact rfl) | (apply e_assign; iterate 3 exact rfl) | (apply e_pick_f; (iterate 3 exact rfl); exact (by first | assumption | exact rfl); exact rfl) | (apply e_fieldAddr; exact rfl; exact rfl; exact (ty rfl); iterate 5 exact rfl) | (apply e_lend; exact rfl; exact rfl; exact (ty rfl); exact rfl; exact rfl) | (apply e_add; iterate 4 exact rfl) | (apply e_lss; iterate 4 exact rfl) | (apply e_geq; iterate 4 exact rfl) | (apply e_ixd; (iterate 3 exact rfl); exact (ty rfl); exact rfl; exact (by first | omega | (simp; done) | (simp; omega)); exact (by first | omega | (simp; done) | (simp; omega)); exact (by first | rfl | assumption); exact rfl) | (apply e_ixl; (iterate 3 exact rfl); exact (ty rfl); (iterate 3 exact rfl); exact (by first | omega | (simp; done) | (simp; omega)); exact (by first | omega | (simp; done) | (simp; omega)); exact rfl) | (apply e_ld1d; exact rfl; exact rfl; exact (ty rfl); iterate 3 exact rfl) | (apply e_ld1p; exact rfl; exact rfl; exact (ty rfl); exact rfl; exact rfl; exact (by first | rfl | assumption | ((try simp only [Nat.zero_add]); refine List.getElem?_set_self ?_; (try simp only [List.length_set]); assumption)); exact rfl; exact rfl) | (apply e_g; (iterate 3 exact rfl); exact (by assumption)))
    | (show DE _ _ _ _ _ _ _ _ _ _ _ _; (first | (apply dr_nil; exact trivial)); (try simp only [put, rowsOf, plR, selE, ovr, setH, del, cellsA, splice, isV, spq, if_true, if_false]))
    | (show AW _ _ _ _ _ _ _ _; first | refine aw_region ?_ | (refine aw_seqk ?_; intro K hK) | refine aw_block ?_ | (apply aw_cond_t; exact rfl; exact (by assumption)) | (apply aw_cond_f; exact rfl; exact (by assumption)) | refine aw_skip ?_ | refine aw_drawE (id := 8) [0, 0, 3, 7, 15, 31, 63, 63, 255, 511, 63, 1087, 3135, 8191, 16383] [0, 0, 1, 1, 0, 0, 0, 0, 1, 1, 0, 1, 0, 0, 0] mixed (by kernel_rfl) ?_ | refine aw_drawE (id := 10) [0, 0, 2, 0, 0, 24, 56, 126, 254, 510, 1023, 2047] [0, 0, 1, 0, 0, 1, 1, 0, 0, 1, 0, 0] mixed (by kernel_rfl) ?_)
    | refine thn_n ?_
    | (refine hK _ _ _ ?_; clear hK K)
    | refine inb_n ?_)); all_goals (repeat (clear hK K)))
    all_goals (refine ⟨i + 1, id, c1, by omega, ?_⟩; (try dsimp only); rw [← hw, ← hw2]; exact ⟨by (repeat (refine ⟨by first | exact lk_i rfl rfl | exact lk_r rfl rfl rfl | exact lk_s rfl rfl rfl rfl, ?_⟩)); exact trivial, by (repeat (refine ⟨by first | exact ⟨rfl, rfl, rfl⟩, ?_⟩)); exact trivial, by rfl, by exact pin_0⟩)
  · have b1 : decide ((i : Int) < (ix.length : Int)) = false := by simpa using c1
    obtain rfl : i = ix.length := by omega
    rw [List.take_length]
    ((repeat' (first
    | (show SQ _ _ _ _ _ _ _ _; first | apply sq_nil | (apply q_move; exact rfl; exact rfl) | (apply q_assign; exact rfl; exact rfl) | (apply q_lenl; exact rfl; exact rfl; exact (ty rfl); exact rfl) | (apply q_lss; iterate 3 exact rfl))
    | (show AW _ _ _ _ _ _ _ _; first | refine aw_region ?_ | (refine aw_seqk ?_; intro K hK) | (apply aw_cond_f; exact rfl; exact (by assumption)) | refine aw_ret ?_ | refine aw_exit ?_)
    | refine thn_n ?_
    | (refine hK _ _ _ ?_; clear hK K)
    | refine thn_e ?_
    | refine inb_same ?_
    | (clear hK K; refine hK _ _ _ ?_; clear hK K))); all_goals (repeat (clear hK K)))
    all_goals exact fin_r (fin_i rfl rfl)
set_option maxHeartbeats 4000000 in
theorem b10Long_ro (a : List Int) (m : Nat) : RO Try.prog 32 [.dsl 1 (byL a)] m (.v (.bool (decide (1048576 < (a.length : Int))))) [] m := by
  have h1 : (byL a).length = a.length := List.length_map _
  refine RO.ofv' Try.func32 Try.ntmps32 rfl (goFn_of Try.func32 rfl (by kernel_rfl)) rfl rfl ?_
  ((repeat' (first
    | (show SQ _ _ _ _ _ _ _ _; first | apply sq_nil | (apply q_move; exact rfl; exact rfl) | (apply q_assign; exact rfl; exact rfl) | (apply q_lend; exact rfl; exact rfl; exact (ty rfl); exact rfl) | (apply q_gtr; iterate 3 exact rfl))
    | (show AW _ _ _ _ _ _ _ _; first | refine aw_region ?_ | (refine aw_seqk ?_; intro K hK) | refine aw_ret ?_)
    | refine thn_n ?_
    | (refine hK _ _ _ ?_; clear hK K))); all_goals (repeat (clear hK K)))
  all_goals refine fin_r (fin_b rfl ?_)
  all_goals simp_all
end Go.Proofs.Ytglfcaioapdiaaa.Bk

namespace Go.Proofs.Ytglfcaioapdiaaa.Bk
open Go Go.RowKit Go.Proofs.Ytglfcaioapdiaaa.Aw Go.Proofs.Ytglfcaioapdiaaa.Sr
set_option linter.unusedSimpArgs false
set_option linter.unusedVariables false
attribute [local irreducible] AW SQ Step RO RC DE Thn InB
def bt8 (bs : List Int) (k n : Int) : Int := if n ≤ 1 then 0 else if k < bs.length then bs.getD k.toNat 0 % n else (k * 37 + 11) % n
theorem bt8_bd (bs : List Int) (k n : Int) (hn : 1 ≤ n) : 0 ≤ bt8 bs k n ∧ bt8 bs k n < n := by
  unfold bt8
  split
  · omega
  · split <;> exact ⟨Int.emod_nonneg _ (by omega), Int.emod_lt_of_pos _ (by omega)⟩
set_option maxHeartbeats 4000000 in
theorem b10At_ro (bs : List Int) (hb : ∀ b ∈ bs, 0 ≤ b ∧ b ≤ 255) (hn : bs.length ≤ 9223372036854775807) (k n : Int) (hk : 0 ≤ k) (hk2 : k ≤ 1000000) (h1 : n ≤ 1000000000) (m : Nat) : RO Try.prog 39 [.dsl 1 (byL bs), .v (.int .i64 k), .v (.int .i64 n)] m (.v (.int .i64 (bt8 bs k n))) [] m := by
  have hl : (byL bs).length = bs.length := List.length_map _
  by_cases c1 : n ≤ 1
  · have b1 : decide (n ≤ 1) = true := by simpa using c1
    refine RO.ofv' Try.func39 Try.ntmps39 rfl (goFn_of Try.func39 rfl (by kernel_rfl)) rfl rfl ?_
    ((repeat' (first
    | (show SQ _ _ _ _ _ _ _ _; first | apply sq_nil | (apply q_move; exact rfl; exact rfl) | (apply q_assign; exact rfl; exact rfl) | (apply q_leq; iterate 3 exact rfl))
    | (show AW _ _ _ _ _ _ _ _; first | refine aw_region ?_ | (refine aw_seqk ?_; intro K hK) | (apply aw_cond_t; exact rfl; exact (by assumption)) | refine aw_ret ?_)
    | refine thn_n ?_
    | (refine hK _ _ _ ?_; clear hK K)
    | refine thn_r ?_)); all_goals (repeat (clear hK K)))
    all_goals refine fin_r (fin_i rfl ?_)
    rw [bt8, if_pos c1]
  · have b1 : decide (n ≤ 1) = false := by simpa using c1
    have hn0 : (n == 0) = false := by simp; omega
    by_cases c2 : k < bs.length
    · have b2 : decide (k < (((byL bs).length : Nat) : Int)) = true := by rw [hl]; simpa using c2
      obtain ⟨j, rfl⟩ := Int.eq_ofNat_of_zero_le hk
      have hj : j < bs.length := by omega
      have hrow : (byL bs)[((j : Int)).toNat]? = some [.v (.int .u8 bs[j])] := by simp [byL, hj]
      have hbd := hb bs[j] (List.getElem_mem hj)
      have w1 : IntKind.i64.wrap bs[j] = bs[j] := IntWalk.i64_in _ (by omega)
      have w3 : (bs[j]).tmod n = bs[j] % n := Int.tmod_eq_emod_of_nonneg (by omega)
      have w4 := Int.emod_lt_of_pos bs[j] (b := n) (by omega)
      have w5 := Int.emod_nonneg bs[j] (b := n) (by omega)
      have w6 : IntKind.i64.wrap (bs[j] % n) = bs[j] % n := IntWalk.i64_in _ (by omega)
      refine RO.ofv' Try.func39 Try.ntmps39 rfl (goFn_of Try.func39 rfl (by kernel_rfl)) rfl rfl ?_
      ((repeat' (first
    | (show SQ _ _ _ _ _ _ _ _; first | apply sq_nil | (apply q_move; exact rfl; exact rfl) | (apply q_assign; exact rfl; exact rfl) | (apply q_conv; exact rfl; exact rfl; exact (ty rfl); exact rfl; exact (ty rfl)) | (apply q_lend; exact rfl; exact rfl; exact (ty rfl); exact rfl) | (apply q_rem; (iterate 3 exact rfl); exact (by first | decide | omega)) | (apply q_lss; iterate 3 exact rfl) | (apply q_leq; iterate 3 exact rfl) | (apply q_ixd; (iterate 3 exact rfl); exact (ty rfl); exact rfl; exact (by first | omega | (simp; done) | (simp; omega)); exact (by first | omega | (simp; done) | (simp; omega)); exact (by first | rfl | assumption)) | (apply q_ld1d; exact rfl; exact rfl; exact (ty rfl); exact rfl; exact rfl))
    | (show AW _ _ _ _ _ _ _ _; first | refine aw_region ?_ | (refine aw_seqk ?_; intro K hK) | (apply aw_cond_t; exact rfl; exact (by assumption)) | (apply aw_cond_f; exact rfl; exact (by assumption)) | refine aw_ret ?_ | refine aw_skip ?_)
    | refine thn_n ?_
    | (refine hK _ _ _ ?_; clear hK K)
    | refine thn_r ?_)); all_goals (repeat (clear hK K)))
      all_goals refine fin_r (fin_i rfl ?_)
      rw [bt8, if_neg c1, if_pos c2]
      simp only [w1, w3, w6, Int.toNat_natCast]
      simp [hj]
    · have b2 : decide (k < (((byL bs).length : Nat) : Int)) = false := by rw [hl]; simpa using c2
      have w1 : IntKind.i64.wrap (k * 37) = k * 37 := IntWalk.i64_in _ (by omega)
      have w2 : IntKind.i64.wrap (k * 37 + 11) = k * 37 + 11 := IntWalk.i64_in _ (by omega)
      have w3 : (k * 37 + 11).tmod n = (k * 37 + 11) % n := Int.tmod_eq_emod_of_nonneg (by omega)
      have w4 := Int.emod_lt_of_pos (k * 37 + 11) (b := n) (by omega)
      have w5 := Int.emod_nonneg (k * 37 + 11) (b := n) (by omega)
      have w6 : IntKind.i64.wrap ((k * 37 + 11) % n) = (k * 37 + 11) % n := IntWalk.i64_in _ (by omega)
      refine RO.ofv' Try.func39 Try.ntmps39 rfl (goFn_of Try.func39 rfl (by kernel_rfl)) rfl rfl ?_
      ((repeat' (first
    | (show SQ _ _ _ _ _ _ _ _; first | apply sq_nil | (apply q_move; exact rfl; exact rfl) | (apply q_assign; exact rfl; exact rfl) | (apply q_lend; exact rfl; exact rfl; exact (ty rfl); exact rfl) | (apply q_add; iterate 3 exact rfl) | (apply q_mul; iterate 3 exact rfl) | (apply q_rem; (iterate 3 exact rfl); exact (by first | decide | omega)) | (apply q_lss; iterate 3 exact rfl) | (apply q_leq; iterate 3 exact rfl))
    | (show AW _ _ _ _ _ _ _ _; first | refine aw_region ?_ | (refine aw_seqk ?_; intro K hK) | (apply aw_cond_f; exact rfl; exact (by assumption)) | refine aw_ret ?_ | refine aw_skip ?_)
    | refine thn_n ?_
    | (refine hK _ _ _ ?_; clear hK K))); all_goals (repeat (clear hK K)))
      all_goals refine fin_r (fin_i rfl ?_)
      rw [bt8, if_neg c1, if_neg c2]
      simp only [w1, w2, w3, w6]
end Go.Proofs.Ytglfcaioapdiaaa.Bk

namespace Go.Proofs.Ytglfcaioapdiaaa.Bk
open Go Go.RowKit Go.Proofs.Ytglfcaioapdiaaa.Aw Go.Proofs.Ytglfcaioapdiaaa.Sr
set_option linter.unusedSimpArgs false
set_option linter.unusedVariables false
attribute [local irreducible] AW SQ Step RO RC DE Thn InB
theorem codeV_0 {n : Int} {ls : List Ln} (hb : bkB n ls = true) {x y : Int} (hx : 0 ≤ x ∧ x < n) (hy : 0 ≤ y ∧ y < n) : codeV n ls [x, y] = 0 := by
  rw [codeV_two, if_pos hb, if_pos]
  simp only [inB, Bool.and_eq_true, decide_eq_true_eq]
  omega
theorem wide_any {n : Int} {ls : List Ln} {a b : Int} (hn : ls.length ≤ 1048576) (c2 : codeV n ls [a, b] = 0) (c5 : fh (farR n ls b) a = true) : ∃ (S : List Int) (w c' : Int), (∀ k, RO Try.prog 29 [.agg (bkL n ls), .v (.int .i64 a), .v (.int .i64 b)] k (.tup [.sl k 0 S.length, .v (.int .i64 w), .v (.int .i64 0)]) [(k, ⟨2, 1, true, S.map inL⟩)] (k + 1)) ∧
    Pt (EL ls) a S c' b ∧ (∀ y ∈ rtI ls S S.length, w ≤ (ls.getD y.toNat lnz).c) ∧ S.length ≤ 12 := by
  obtain ⟨hN, hL, ha, hb, _, hbk⟩ := codeV_ok c2
  by_cases c3 : a = b
  · refine ⟨[a], 0, 0, Wide_same_ro n ls a b hn c2 c3, ?_, by intro y hy; simp [rtI] at hy, by simp⟩
    subst c3
    exact .one
  · obtain ⟨k0, h1, h2, h3⟩ := wide_ex hL hN.2 hb c3 c5
    have hI := Wide_some_ro n ls a b hn c2 c3 k0 h1 h3 h2
    have hle := rtL_le (wdL_ok (w := wkW ls k0) hL) hN.2 hb h2
    obtain ⟨c', hw⟩ := wide_way hL hN.2 hb h2
    rw [← rtL_len] at hI hle
    exact ⟨_, _, c', hI, hw.mono fun x y o => ELw.el, Pt.caps (Uq.of hbk) hw, hle⟩
theorem backhaul_some (cs ms : List Int) (hm : ∀ b ∈ ms, 0 ≤ b ∧ b ≤ 255) (hnm : ms.length ≤ 9223372036854775807) (hLong : ∀ k, RO Try.prog 32 [.dsl 1 (byL cs)] k (.v (.bool false)) [] k) (hLong2 : ∀ k, RO Try.prog 32 [.dsl 1 (byL ms)] k (.v (.bool false)) [] k)
    {n : Int} {ls : List Ln} {a b : Int} (hle : ls.length ≤ 32) (hD : ∀ k, RC Try.prog 38 [.dsl 1 (byL cs)] [] k (.tup [.agg [.v (.int .i64 n), .sl k 0 ls.length], .v (.int .i64 a), .v (.int .i64 b)]) [(k, some ⟨56, 4, true, ls.map lnL⟩)] (k + 1))
    (c2 : codeV n ls [a, b] = 0) (c5 : fh (farR n ls b) a = true) (k : Nat) : RO Try.prog 10 [.dsl 1 (byL cs), .dsl 1 (byL ms)] k (.v (.bool true)) [] k := by
  have hn : ls.length ≤ 1048576 := by omega
  obtain ⟨hN, hL, ha, hb, _, hbk⟩ := codeV_ok c2
  have hu := Uq.of hbk
  have hR := RouteOf_some_ro n ls a b hn c2 c5
  obtain ⟨d1, d2, d3⟩ := best_back hL hN.2 ha hb c5
  have hRb := RouteOf_some_ro n ls b a hn (codeV_0 hbk hb ha) d1
  obtain ⟨S, w, c', hW, pS, capS, lS⟩ := wide_any hn c2 c5
  have w1 := rtL_way hL hN.2 hb c5
  have w2 := rtL_way hL hN.2 ha d1
  have r1 := rtL_rtB hL hN.2 ha hb c5
  have r2 := rtL_rtB hL hN.2 hb ha d1
  have rS := pS.rtB hL ha
  have n1 := rtL_le hL hN.2 hb c5
  have n2 := rtL_le hL hN.2 ha d1
  rw [← rtL_len] at n1 n2 hR hRb
  have dl : (rtL n ls b a).length = (rtL n ls a b).length := by rw [rtL_len, rtL_len, d3]
  have h2 := rtL_head (n := n) (ls := ls) (frm := a) (to := b)
  have hlast := w1.last
  have q1 := Pt.cst hu w1
  have q2 := Pt.cst hu w2
  have qS := Pt.cst hu pS
  have q3 := (best_le hL hN.2 hb pS).2
  have g1 := b10Cost_ro n ls _ hn (by omega) hbk hL r1
  have g2 := b10Cost_ro n ls _ hn (by omega) hbk hL r2
  have gS := b10Cost_ro n ls _ hn (by omega) hbk hL rS
  rw [q1] at g1
  rw [q2, d2] at g2
  rw [qS] at gS
  have lX := implLinks_ok_ro n ls _ hn (by omega) hbk rS
  have xS := rtI_in' rS
  have mX := rtI_len ls S S.length
  have fb := (FW.of (to := b) hL hN.2 hb).bd c5
  obtain ⟨v0, v1⟩ := bt8_bd ms 0 n (by omega)
  have hV := b10At_ro ms hm hnm 0 n (by omega) (by omega) (by omega)
  generalize hv : bt8 ms 0 n = v at *
  obtain ⟨e1, e2⟩ := best_via hL hN.2 ha hb ⟨v0, v1⟩ c5
  have hPn := RouteOf_none_ro n ls a v hn (codeV_0 hbk ha ⟨v0, v1⟩)
  have hPs := RouteOf_some_ro n ls a v hn (codeV_0 hbk ha ⟨v0, v1⟩)
  have hQn := RouteOf_none_ro n ls v b hn (codeV_0 hbk ⟨v0, v1⟩ hb)
  have hQs := RouteOf_some_ro n ls v b hn (codeV_0 hbk ⟨v0, v1⟩ hb)
  generalize hk1 : fc (farR n ls b) a = k1 at *
  generalize hF : rtL n ls a b = F at *
  generalize rtL n ls b a = B at *
  generalize rtI ls S S.length = X at *
  have hF0 : 0 < F.length := List.length_pos_iff.2 w1.ne
  have b1 : decide (k1 < 0) = false := by simp; omega
  have b2 : decide ((F.length : Int) < 1) = false := by simp; omega
  have b3 : (a != a) = false := by simp
  have b4 : (b != b) = false := by simp
  have b5 : decide (c' < k1) = false := by simp; omega
  have b6 : (k1 != k1) = false := by simp
  have b7 : ((B.length : Int) != (F.length : Int)) = false := by simp; omega
  have b8 : ((0 : Int) != 0) = false := rfl
  have w3 : IntKind.i64.wrap ((F.length : Int) - 1) = ((F.length - 1 : Nat) : Int) := by
    rw [IntWalk.i64_in _ (by omega)]; omega
  have hr1 : (F.map inL)[0 + ((0 : Int)).toNat]? = some (inL a) := by simp [h2]
  have hr2 : (F.map inL)[0 + (IntKind.i64.wrap ((F.length : Int) - 1)).toNat]? = some (inL b) := by
    rw [w3, Nat.zero_add, Int.toNat_natCast, List.getElem?_map, ← List.getLast?_eq_getElem?, hlast]; rfl
  rw [inL_eq] at hr1 hr2
  have mF : F.length ≤ 12 := n1
  unfold bkL at hR hRb hW g1 g2 gS lX
  refine RO.ofv' Try.func10 Try.ntmps10 rfl (goFn_of Try.func10 rfl (by kernel_rfl)) rfl rfl ?_
  ((repeat' (first
    | (show SQ _ _ _ _ _ _ _ _; first | apply sq_nil | (apply q_move; exact rfl; exact rfl) | (apply q_assign; exact rfl; exact rfl) | (apply q_pick_f; (iterate 3 exact rfl); exact (by first | assumption | exact rfl)) | (apply q_ext; iterate 3 exact rfl) | (apply q_lenl; exact rfl; exact rfl; exact (ty rfl); exact rfl) | (apply q_sub; iterate 3 exact rfl) | (apply q_neq; iterate 3 exact rfl) | (apply q_lss; iterate 3 exact rfl) | (apply q_ixl; (iterate 3 exact rfl); exact (ty rfl); (iterate 3 exact rfl); exact (by first | omega | (simp; done) | (simp; omega)); exact (by first | omega | (simp; done) | (simp; omega))) | (apply q_ld1p; exact rfl; exact rfl; exact (ty rfl); exact rfl; exact rfl; exact (by first | rfl | assumption | ((try simp only [Nat.zero_add]); refine List.getElem?_set_self ?_; (try simp only [List.length_set]); assumption)); exact rfl) | (apply q_g; (iterate 3 exact rfl); exact (by assumption)))
    | (show SQ _ _ _ _ _ _ _ _; (first | (apply q_ldap; exact rfl; exact rfl; exact (ty rfl); exact rfl; exact rfl; exact (by first | rfl | assumption | ((try simp only [Nat.zero_add]); refine List.getElem?_set_self ?_; (try simp only [List.length_set]); assumption)); exact rfl) | (apply q_alloc; exact rfl; exact (ty rfl); exact rfl; exact rfl) | (apply q_store; exact rfl; exact rfl; exact (ty rfl); exact rfl; exact (by first | rfl | assumption | ((try simp only [Nat.zero_add]); refine List.getElem?_set_self ?_; (try simp only [List.length_set]); assumption)); iterate 3 exact rfl) | (apply q_callU; (iterate 3 exact rfl); exact FzL.of rfl; exact hLong _) | (apply q_callU; (iterate 3 exact rfl); exact FzL.of rfl; exact hLong2 _) | (apply q_callU; (iterate 3 exact rfl); rotate_left; exact hR _; rotate_right; focus ((repeat' (first | exact FzL.nil | exact (by assumption : FzC _) _ | refine FzL.cons ?_ ?_ | exact Fz.of rfl | exact Fz.nil | exact Fz.emp | (apply Fz.fnC; assumption) | (apply Fz.sl2; exact rfl; exact (by first | omega | (simp; done) | (simp; omega)); first | exact rfl | exact dt_full (by first | omega | (simp; done) | (simp; omega)) | assumption) | apply Fz.agg | (apply Fz.ptrL; exact rfl; first | exact rfl | assumption) | apply Fz.fnL)); done)) | (apply q_callU; (iterate 3 exact rfl); rotate_left; exact hW _; rotate_right; focus ((repeat' (first | exact FzL.nil | exact (by assumption : FzC _) _ | refine FzL.cons ?_ ?_ | exact Fz.of rfl | exact Fz.nil | exact Fz.emp | (apply Fz.fnC; assumption) | (apply Fz.sl2; exact rfl; exact (by first | omega | (simp; done) | (simp; omega)); first | exact rfl | exact dt_full (by first | omega | (simp; done) | (simp; omega)) | assumption) | apply Fz.agg | (apply Fz.ptrL; exact rfl; first | exact rfl | assumption) | apply Fz.fnL)); done)) | (apply q_callU; (iterate 3 exact rfl); rotate_left; exact hRb _; rotate_right; focus ((repeat' (first | exact FzL.nil | exact (by assumption : FzC _) _ | refine FzL.cons ?_ ?_ | exact Fz.of rfl | exact Fz.nil | exact Fz.emp | (apply Fz.fnC; assumption) | (apply Fz.sl2; exact rfl; exact (by first | omega | (simp; done) | (simp; omega)); first | exact rfl | exact dt_full (by first | omega | (simp; done) | (simp; omega)) | assumption) | apply Fz.agg | (apply Fz.ptrL; exact rfl; first | exact rfl | assumption) | apply Fz.fnL)); done)) | (apply q_callU; (iterate 3 exact rfl); rotate_left; exact g1 _; rotate_right; focus ((repeat' (first | exact FzL.nil | exact (by assumption : FzC _) _ | refine FzL.cons ?_ ?_ | exact Fz.of rfl | exact Fz.nil | exact Fz.emp | (apply Fz.fnC; assumption) | (apply Fz.sl2; exact rfl; exact (by first | omega | (simp; done) | (simp; omega)); first | exact rfl | exact dt_full (by first | omega | (simp; done) | (simp; omega)) | assumption) | apply Fz.agg | (apply Fz.ptrL; exact rfl; first | exact rfl | assumption) | apply Fz.fnL)); done)) | (apply q_callU; (iterate 3 exact rfl); rotate_left; exact g2 _; rotate_right; focus ((repeat' (first | exact FzL.nil | exact (by assumption : FzC _) _ | refine FzL.cons ?_ ?_ | exact Fz.of rfl | exact Fz.nil | exact Fz.emp | (apply Fz.fnC; assumption) | (apply Fz.sl2; exact rfl; exact (by first | omega | (simp; done) | (simp; omega)); first | exact rfl | exact dt_full (by first | omega | (simp; done) | (simp; omega)) | assumption) | apply Fz.agg | (apply Fz.ptrL; exact rfl; first | exact rfl | assumption) | apply Fz.fnL)); done)) | (apply q_callU; (iterate 3 exact rfl); rotate_left; exact gS _; rotate_right; focus ((repeat' (first | exact FzL.nil | exact (by assumption : FzC _) _ | refine FzL.cons ?_ ?_ | exact Fz.of rfl | exact Fz.nil | exact Fz.emp | (apply Fz.fnC; assumption) | (apply Fz.sl2; exact rfl; exact (by first | omega | (simp; done) | (simp; omega)); first | exact rfl | exact dt_full (by first | omega | (simp; done) | (simp; omega)) | assumption) | apply Fz.agg | (apply Fz.ptrL; exact rfl; first | exact rfl | assumption) | apply Fz.fnL)); done)) | (apply q_callU; (iterate 3 exact rfl); rotate_left; exact lX _; rotate_right; focus ((repeat' (first | exact FzL.nil | exact (by assumption : FzC _) _ | refine FzL.cons ?_ ?_ | exact Fz.of rfl | exact Fz.nil | exact Fz.emp | (apply Fz.fnC; assumption) | (apply Fz.sl2; exact rfl; exact (by first | omega | (simp; done) | (simp; omega)); first | exact rfl | exact dt_full (by first | omega | (simp; done) | (simp; omega)) | assumption) | apply Fz.agg | (apply Fz.ptrL; exact rfl; first | exact rfl | assumption) | apply Fz.fnL)); done)) | (apply q_callC; (iterate 3 exact rfl); exact hD _; (focus ((repeat (first | exact trivial | refine ⟨by first | exact rfl | assumption, ?_⟩)); done)); skip)); (try simp only [put, rowsOf, plR, selE, ovr, setH, del, cellsA, splice, isV, spq, if_true, if_false]))
    | (show AW _ _ _ _ _ _ _ _; first | refine aw_region ?_ | (refine aw_seqk ?_; intro K hK) | refine aw_block ?_ | (apply aw_cond_f; exact rfl; exact rfl) | (apply aw_cond_f; exact rfl; exact (by assumption)) | refine aw_skip ?_)
    | refine thn_n ?_
    | (refine hK _ _ _ ?_; clear hK K))); all_goals (repeat (clear hK K)))
  refine aw_loop (ρ := mv 2 5) (ι := Nat) (fun i => ([(18, .v (.int .i64 i)), (17, .v (.int .i64 0)), (16, .sl 2 0 X.length), (13, .v (.int .i64 k1)), (11, .v (.int .i64 w)), (7, .v (.int .i64 b)), (6, .v (.int .i64 a)), (5, .ptr 1 0 0), (1, .dsl 1 (byL ms))],
      [(0, ⟨56, 4, true, ls.map lnL⟩), (1, ⟨31, 2, false, [[.v (.int .i64 n), .sl 0 0 ls.length]]⟩), (2, ⟨2, 1, true, X.map inL⟩)], 3))
    (fun i => i ≤ X.length) (fun i => X.length - i) 0 (Nat.zero_le _) ⟨by (repeat (refine ⟨by first | exact lk_i rfl rfl | exact lk_d rfl rfl | exact lk_r rfl rfl rfl | exact lk_s rfl rfl rfl rfl, ?_⟩)); exact trivial, by (repeat (refine ⟨by first | exact ⟨rfl, rfl, rfl⟩, ?_⟩)); exact trivial, by rfl, by exact pin_0⟩ ?_
  intro i hi
  (try dsimp only)
  by_cases c3 : i < X.length
  · have f1 : decide ((i : Int) < (X.length : Int)) = true := by simpa using c3
    have hrow : (X.map inL)[0 + ((i : Int)).toNat]? = some (inL X[i]) := by simp [c3]
    rw [inL_eq] at hrow
    obtain ⟨x0, x1⟩ := xS X[i] (List.getElem_mem c3)
    have xc := capS X[i] (List.getElem_mem c3)
    generalize X[i] = x at *
    have hx : x.toNat < ls.length := by omega
    have hrow2 : (ls.map lnL)[0 + x.toNat]? = some (lnL ls[x.toNat]) := by simp [hx]
    rw [lnL_eq] at hrow2
    have hgd : ls.getD x.toNat lnz = ls[x.toNat] := by simp [List.getD, hx]
    rw [hgd] at xc
    have f2 : decide (x < 0) = false := by simp; omega
    have f3 : decide ((ls.length : Int) ≤ x) = false := by simp; omega
    have f4 : decide (ls[x.toNat].c < w) = false := by simp; omega
    have hw : IntKind.i64.wrap ((i : Int) + 1) = ((i + 1 : Nat) : Int) := by rw [IntWalk.i64_in _ (by omega)]; omega
    ((repeat' (first
    | (show SQ _ _ _ _ _ _ _ _; first | apply sq_nil | (apply q_move; exact rfl; exact rfl) | (apply q_assign; exact rfl; exact rfl) | (apply q_lenl; exact rfl; exact rfl; exact (ty rfl); exact rfl) | (apply q_add; iterate 3 exact rfl) | (apply q_lss; iterate 3 exact rfl))
    | (show DE _ _ _ _ _ _ _ _ _ _ _ _; first | (apply e_move; iterate 3 exact rfl) | (apply e_pick_f; (iterate 3 exact rfl); exact (by first | assumption | exact rfl); exact rfl) | (apply e_fieldAddr; exact rfl; exact rfl; exact (ty rfl); iterate 5 exact rfl) | (apply e_lenl; exact rfl; exact rfl; exact (ty rfl); exact rfl; exact rfl) | (apply e_lss; iterate 4 exact rfl) | (apply e_geq; iterate 4 exact rfl) | (apply e_ixl; (iterate 3 exact rfl); exact (ty rfl); (iterate 3 exact rfl); exact (by first | omega | (simp; done) | (simp; omega)); exact (by first | omega | (simp; done) | (simp; omega)); exact rfl) | (apply e_ld1p; exact rfl; exact rfl; exact (ty rfl); exact rfl; exact rfl; exact (by first | rfl | assumption | ((try simp only [Nat.zero_add]); refine List.getElem?_set_self ?_; (try simp only [List.length_set]); assumption)); exact rfl; exact rfl) | (apply e_g; (iterate 3 exact rfl); exact (by assumption)))
    | (show DE _ _ _ _ _ _ _ _ _ _ _ _; (first | (apply dr_nil; exact trivial)); (try simp only [put, rowsOf, plR, selE, ovr, setH, del, cellsA, splice, isV, spq, if_true, if_false]))
    | (show AW _ _ _ _ _ _ _ _; first | refine aw_region ?_ | (refine aw_seqk ?_; intro K hK) | refine aw_block ?_ | (apply aw_cond_t; exact rfl; exact (by assumption)) | (apply aw_cond_f; exact rfl; exact (by assumption)) | refine aw_skip ?_ | refine aw_drawE (id := 16) [0, 0, 3, 7, 15, 31, 63, 63, 255, 511, 63, 1087, 3135, 8191, 16383, 32767, 65535, 131071, 65535, 65535, 851967, 1900543, 4194303, 8388607, 16777215, 65535, 67108863, 134217727] [0, 0, 1, 1, 0, 0, 0, 0, 1, 1, 0, 1, 0, 0, 0, 0, 0, 1, 0, 0, 1, 1, 1, 0, 1, 0, 0, 0] mixed (by kernel_rfl) ?_)
    | refine thn_n ?_
    | (refine hK _ _ _ ?_; clear hK K)
    | refine inb_n ?_)); all_goals (repeat (clear hK K)))
    all_goals (refine ⟨i + 1, id, c3, by omega, ?_⟩; (try dsimp only); rw [← hw]; exact ⟨by (repeat (refine ⟨by first | exact lk_i rfl rfl | exact lk_d rfl rfl | exact lk_r rfl rfl rfl | exact lk_s rfl rfl rfl rfl, ?_⟩)); exact trivial, by (repeat (refine ⟨by first | exact ⟨rfl, rfl, rfl⟩, ?_⟩)); exact trivial, by rfl, by exact pin_0⟩)
  · have f1 : decide ((i : Int) < (X.length : Int)) = false := by simpa using c3
    cases h1 : fh (farR n ls v) a with
    | false =>
      have hP := hPn h1
      have hQ := hQn (e1 ▸ h1)
      have f2 : ((3 : Int) != 3) = false := rfl
      have f3 : ((3 : Int) != 0) = true := rfl
      unfold bkL at hP hQ
      ((repeat' (first
    | (show SQ _ _ _ _ _ _ _ _; first | apply sq_nil | (apply q_move; exact rfl; exact rfl) | (apply q_assign; exact rfl; exact rfl) | (apply q_pick_f; (iterate 3 exact rfl); exact (by first | assumption | exact rfl)) | (apply q_fieldAddr; exact rfl; exact rfl; exact (ty rfl); iterate 4 exact rfl) | (apply q_ext; iterate 3 exact rfl) | (apply q_lenl; exact rfl; exact rfl; exact (ty rfl); exact rfl) | (apply q_neq; iterate 3 exact rfl) | (apply q_lss; iterate 3 exact rfl) | (apply q_ld1p; exact rfl; exact rfl; exact (ty rfl); exact rfl; exact rfl; exact (by first | rfl | assumption | ((try simp only [Nat.zero_add]); refine List.getElem?_set_self ?_; (try simp only [List.length_set]); assumption)); exact rfl) | (apply q_g; (iterate 3 exact rfl); exact (by assumption)))
    | (show SQ _ _ _ _ _ _ _ _; (first | (apply q_ldap; exact rfl; exact rfl; exact (ty rfl); exact rfl; exact rfl; exact (by first | rfl | assumption | ((try simp only [Nat.zero_add]); refine List.getElem?_set_self ?_; (try simp only [List.length_set]); assumption)); exact rfl) | (apply q_callU; (iterate 3 exact rfl); exact FzL.of rfl; exact hV _) | (apply q_callU; (iterate 3 exact rfl); rotate_left; exact hP _; rotate_right; focus ((repeat' (first | exact FzL.nil | exact (by assumption : FzC _) _ | refine FzL.cons ?_ ?_ | exact Fz.of rfl | exact Fz.nil | exact Fz.emp | (apply Fz.fnC; assumption) | (apply Fz.sl2; exact rfl; exact (by first | omega | (simp; done) | (simp; omega)); first | exact rfl | exact dt_full (by first | omega | (simp; done) | (simp; omega)) | assumption) | apply Fz.agg | (apply Fz.ptrL; exact rfl; first | exact rfl | assumption) | apply Fz.fnL)); done)) | (apply q_callU; (iterate 3 exact rfl); rotate_left; exact hQ _; rotate_right; focus ((repeat' (first | exact FzL.nil | exact (by assumption : FzC _) _ | refine FzL.cons ?_ ?_ | exact Fz.of rfl | exact Fz.nil | exact Fz.emp | (apply Fz.fnC; assumption) | (apply Fz.sl2; exact rfl; exact (by first | omega | (simp; done) | (simp; omega)); first | exact rfl | exact dt_full (by first | omega | (simp; done) | (simp; omega)) | assumption) | apply Fz.agg | (apply Fz.ptrL; exact rfl; first | exact rfl | assumption) | apply Fz.fnL)); done))); (try simp only [put, rowsOf, plR, selE, ovr, setH, del, cellsA, splice, isV, spq, if_true, if_false]))
    | (show DE _ _ _ _ _ _ _ _ _ _ _ _; first | (apply e_move; iterate 3 exact rfl) | (apply e_assign; iterate 3 exact rfl) | (apply e_pick_t; (iterate 3 exact rfl); exact (by first | assumption | exact rfl); exact rfl) | (apply e_neq; iterate 4 exact rfl) | (apply e_s; (iterate 3 exact rfl); exact (by assumption); exact rfl))
    | (show DE _ _ _ _ _ _ _ _ _ _ _ _; (first | (apply dr_nil; exact trivial)); (try simp only [put, rowsOf, plR, selE, ovr, setH, del, cellsA, splice, isV, spq, if_true, if_false]))
    | (show AW _ _ _ _ _ _ _ _; first | refine aw_region ?_ | (refine aw_seqk ?_; intro K hK) | (apply aw_cond_f; exact rfl; exact rfl) | (apply aw_cond_f; exact rfl; exact (by assumption)) | refine aw_ret ?_ | refine aw_exit ?_ | refine aw_skip ?_ | refine aw_drawE (id := 23) [0, 1, 3, 7, 7, 31, 7, 7, 255, 511, 7, 2047, 4095, 8191] [0, 0, 0, 1, 0, 1, 1, 0, 1, 0, 0, 0, 0, 0] mixed (by kernel_rfl) ?_)
    | refine thn_n ?_
    | (refine hK _ _ _ ?_; clear hK K)
    | refine thn_e ?_
    | refine inb_same ?_
    | (clear hK K; refine hK _ _ _ ?_; clear hK K))); all_goals (repeat (clear hK K)))
      all_goals exact fin_r (fin_b rfl rfl)
    | true =>
      have hh2 : fh (farR n ls b) v = true := e1 ▸ h1
      have hP := hPs h1
      have hQ := hQs hh2
      have e3 := e2 h1
      have y1 := rtL_rtB hL hN.2 ha ⟨v0, v1⟩ h1
      have y2 := rtL_rtB hL hN.2 ⟨v0, v1⟩ hb hh2
      have m1 := rtL_le hL hN.2 ⟨v0, v1⟩ h1
      have m2 := rtL_le hL hN.2 hb hh2
      rw [← rtL_len] at m1 m2 hP hQ
      have u1 := b10Cost_ro n ls _ hn (by omega) hbk hL y1
      have u2 := b10Cost_ro n ls _ hn (by omega) hbk hL y2
      rw [Pt.cst hu (rtL_way hL hN.2 ⟨v0, v1⟩ h1)] at u1
      rw [Pt.cst hu (rtL_way hL hN.2 hb hh2)] at u2
      have z1 := (FW.of (to := v) hL hN.2 ⟨v0, v1⟩).bd h1
      have z2 := (FW.of (to := b) hL hN.2 hb).bd hh2
      generalize rtL n ls a v = P at *
      generalize rtL n ls v b = Q at *
      generalize fc (farR n ls v) a = k3 at *
      generalize fc (farR n ls b) v = k4 at *
      have f4 : decide (k1 ≤ IntKind.i64.wrap (k3 + k4)) = true := by rw [IntWalk.i64_in _ (by omega)]; simpa using e3
      unfold bkL at hP hQ u1 u2
      ((repeat' (first
    | (show SQ _ _ _ _ _ _ _ _; first | apply sq_nil | (apply q_move; exact rfl; exact rfl) | (apply q_assign; exact rfl; exact rfl) | (apply q_pick_f; (iterate 3 exact rfl); exact (by first | assumption | exact rfl)) | (apply q_fieldAddr; exact rfl; exact rfl; exact (ty rfl); iterate 4 exact rfl) | (apply q_ext; iterate 3 exact rfl) | (apply q_lenl; exact rfl; exact rfl; exact (ty rfl); exact rfl) | (apply q_neq; iterate 3 exact rfl) | (apply q_lss; iterate 3 exact rfl) | (apply q_ld1p; exact rfl; exact rfl; exact (ty rfl); exact rfl; exact rfl; exact (by first | rfl | assumption | ((try simp only [Nat.zero_add]); refine List.getElem?_set_self ?_; (try simp only [List.length_set]); assumption)); exact rfl) | (apply q_g; (iterate 3 exact rfl); exact (by assumption)))
    | (show SQ _ _ _ _ _ _ _ _; (first | (apply q_ldap; exact rfl; exact rfl; exact (ty rfl); exact rfl; exact rfl; exact (by first | rfl | assumption | ((try simp only [Nat.zero_add]); refine List.getElem?_set_self ?_; (try simp only [List.length_set]); assumption)); exact rfl) | (apply q_callU; (iterate 3 exact rfl); exact FzL.of rfl; exact hV _) | (apply q_callU; (iterate 3 exact rfl); rotate_left; exact hP _; rotate_right; focus ((repeat' (first | exact FzL.nil | exact (by assumption : FzC _) _ | refine FzL.cons ?_ ?_ | exact Fz.of rfl | exact Fz.nil | exact Fz.emp | (apply Fz.fnC; assumption) | (apply Fz.sl2; exact rfl; exact (by first | omega | (simp; done) | (simp; omega)); first | exact rfl | exact dt_full (by first | omega | (simp; done) | (simp; omega)) | assumption) | apply Fz.agg | (apply Fz.ptrL; exact rfl; first | exact rfl | assumption) | apply Fz.fnL)); done)) | (apply q_callU; (iterate 3 exact rfl); rotate_left; exact hQ _; rotate_right; focus ((repeat' (first | exact FzL.nil | exact (by assumption : FzC _) _ | refine FzL.cons ?_ ?_ | exact Fz.of rfl | exact Fz.nil | exact Fz.emp | (apply Fz.fnC; assumption) | (apply Fz.sl2; exact rfl; exact (by first | omega | (simp; done) | (simp; omega)); first | exact rfl | exact dt_full (by first | omega | (simp; done) | (simp; omega)) | assumption) | apply Fz.agg | (apply Fz.ptrL; exact rfl; first | exact rfl | assumption) | apply Fz.fnL)); done))); (try simp only [put, rowsOf, plR, selE, ovr, setH, del, cellsA, splice, isV, spq, if_true, if_false]))
    | (show DE _ _ _ _ _ _ _ _ _ _ _ _; first | (apply e_move; iterate 3 exact rfl) | (apply e_assign; iterate 3 exact rfl) | (apply e_pick_f; (iterate 3 exact rfl); exact (by first | assumption | exact rfl); exact rfl) | (apply e_add; iterate 4 exact rfl) | (apply e_neq; iterate 4 exact rfl) | (apply e_geq; iterate 4 exact rfl) | (apply e_g; (iterate 3 exact rfl); exact (by assumption)))
    | (show DE _ _ _ _ _ _ _ _ _ _ _ _; (first | (apply dr_nil; exact trivial) | (apply e_ldap; exact rfl; exact rfl; exact (ty rfl); exact rfl; exact rfl; exact (by first | rfl | assumption | ((try simp only [Nat.zero_add]); refine List.getElem?_set_self ?_; (try simp only [List.length_set]); assumption)); exact rfl; exact rfl) | (apply e_callU; (iterate 3 exact rfl); rotate_left; exact u1 _; exact rfl; rotate_right; focus ((repeat' (first | exact FzL.nil | exact (by assumption : FzC _) _ | refine FzL.cons ?_ ?_ | exact Fz.of rfl | exact Fz.nil | exact Fz.emp | (apply Fz.fnC; assumption) | (apply Fz.sl2; exact rfl; exact (by first | omega | (simp; done) | (simp; omega)); first | exact rfl | exact dt_full (by first | omega | (simp; done) | (simp; omega)) | assumption) | apply Fz.agg | (apply Fz.ptrL; exact rfl; first | exact rfl | assumption) | apply Fz.fnL)); done)) | (apply e_callU; (iterate 3 exact rfl); rotate_left; exact u2 _; exact rfl; rotate_right; focus ((repeat' (first | exact FzL.nil | exact (by assumption : FzC _) _ | refine FzL.cons ?_ ?_ | exact Fz.of rfl | exact Fz.nil | exact Fz.emp | (apply Fz.fnC; assumption) | (apply Fz.sl2; exact rfl; exact (by first | omega | (simp; done) | (simp; omega)); first | exact rfl | exact dt_full (by first | omega | (simp; done) | (simp; omega)) | assumption) | apply Fz.agg | (apply Fz.ptrL; exact rfl; first | exact rfl | assumption) | apply Fz.fnL)); done))); (try simp only [put, rowsOf, plR, selE, ovr, setH, del, cellsA, splice, isV, spq, if_true, if_false]))
    | (show AW _ _ _ _ _ _ _ _; first | refine aw_region ?_ | (refine aw_seqk ?_; intro K hK) | (apply aw_cond_f; exact rfl; exact rfl) | (apply aw_cond_f; exact rfl; exact (by assumption)) | refine aw_ret ?_ | refine aw_exit ?_ | refine aw_skip ?_ | refine aw_drawE (id := 23) [0, 1, 3, 7, 7, 31, 7, 7, 255, 511, 7, 2047, 4095, 8191] [0, 0, 0, 1, 0, 1, 1, 0, 1, 0, 0, 0, 0, 0] mixed (by kernel_rfl) ?_)
    | refine thn_n ?_
    | (refine hK _ _ _ ?_; clear hK K)
    | refine thn_e ?_
    | refine inb_same ?_
    | (clear hK K; refine hK _ _ _ ?_; clear hK K))); all_goals (repeat (clear hK K)))
      all_goals exact fin_r (fin_b rfl f4)
set_option maxHeartbeats 4000000 in
theorem lawFnBackhaul_ro (cs ms : List Int) (hc : ∀ b ∈ cs, 0 ≤ b ∧ b ≤ 255) (hnc : cs.length ≤ 9223372036854775807) (hm : ∀ b ∈ ms, 0 ≤ b ∧ b ≤ 255) (hnm : ms.length ≤ 9223372036854775807) (k : Nat) : RO Try.prog 10 [.dsl 1 (byL cs), .dsl 1 (byL ms)] k (.v (.bool true)) [] k := by
  have hLong := b10Long_ro cs
  have hLong2 := b10Long_ro ms
  by_cases c0 : 1048576 < (cs.length : Int)
  · rw [decide_eq_true c0] at hLong
    refine RO.ofv' Try.func10 Try.ntmps10 rfl (goFn_of Try.func10 rfl (by kernel_rfl)) rfl rfl ?_
    ((repeat' (first
    | (show SQ _ _ _ _ _ _ _ _; first | apply sq_nil | (apply q_move; exact rfl; exact rfl) | (apply q_assign; exact rfl; exact rfl) | (apply q_pick_t; (iterate 3 exact rfl); exact (by first | assumption | exact rfl)) | (apply q_s; iterate 5 exact rfl))
    | (show SQ _ _ _ _ _ _ _ _; (first | (apply q_callU; (iterate 3 exact rfl); exact FzL.of rfl; exact hLong _)); (try simp only [put, rowsOf, plR, selE, ovr, setH, del, cellsA, splice, isV, spq, if_true, if_false]))
    | (show AW _ _ _ _ _ _ _ _; first | refine aw_region ?_ | (refine aw_seqk ?_; intro K hK) | (apply aw_cond_t; exact rfl; exact rfl) | refine aw_ret ?_)
    | refine thn_n ?_
    | (refine hK _ _ _ ?_; clear hK K)
    | refine thn_r ?_)); all_goals (repeat (clear hK K)))
    all_goals exact fin_r (fin_b rfl rfl)
  rw [decide_eq_false c0] at hLong
  by_cases c1 : 1048576 < (ms.length : Int)
  · rw [decide_eq_true c1] at hLong2
    refine RO.ofv' Try.func10 Try.ntmps10 rfl (goFn_of Try.func10 rfl (by kernel_rfl)) rfl rfl ?_
    ((repeat' (first
    | (show SQ _ _ _ _ _ _ _ _; first | apply sq_nil | (apply q_move; exact rfl; exact rfl) | (apply q_assign; exact rfl; exact rfl) | (apply q_pick_f; (iterate 3 exact rfl); exact (by first | assumption | exact rfl)) | (apply q_g; iterate 4 exact rfl))
    | (show SQ _ _ _ _ _ _ _ _; (first | (apply q_callU; (iterate 3 exact rfl); exact FzL.of rfl; exact hLong _) | (apply q_callU; (iterate 3 exact rfl); exact FzL.of rfl; exact hLong2 _)); (try simp only [put, rowsOf, plR, selE, ovr, setH, del, cellsA, splice, isV, spq, if_true, if_false]))
    | (show AW _ _ _ _ _ _ _ _; first | refine aw_region ?_ | (refine aw_seqk ?_; intro K hK) | (apply aw_cond_t; exact rfl; exact rfl) | refine aw_ret ?_)
    | refine thn_n ?_
    | (refine hK _ _ _ ?_; clear hK K)
    | refine thn_r ?_)); all_goals (repeat (clear hK K)))
    all_goals exact fin_r (fin_b rfl rfl)
  rw [decide_eq_false c1] at hLong2
  obtain ⟨n, ls, a, b, hnb, hle, hD⟩ := DrawRouteOf_ex cs hc hnc
  have hn : ls.length ≤ 1048576 := by omega
  have z0 : ((0 : Int) != 0) = false := rfl
  have z1 : ((0 : Int) == 0) = true := rfl
  have z2 : (((0 : Nat) : Int) == 0) = true := rfl
  by_cases c2 : codeV n ls [a, b] = 0
  · obtain ⟨hN, hL, ha, hb, _, hbk⟩ := codeV_ok c2
    cases c5 : fh (farR n ls b) a with
    | true => exact backhaul_some cs ms hm hnm hLong hLong2 hle hD c2 c5 k
    | false =>
      have hne : a ≠ b := fun e => by
        have := (FW.of (to := b) hL hN.2 hb).at0.1
        rw [e] at c5; rw [c5] at this; cases this
      have hno : ∀ k, k < ls.length → fh (farR n (wdL ls (wkW ls k)) b) a = false := fun k hk => by
        cases h : fh (farR n (wdL ls (wkW ls k)) b) a with
        | false => rfl
        | true => have := wide_fh hL hN.2 hb h; rw [c5] at this; cases this
      have hR := RouteOf_none_ro n ls a b hn c2 c5
      have hW := Wide_none_ro n ls a b hn c2 hne hno
      have b1 : ((3 : Int) != 0) = true := rfl
      have b2 : ((3 : Int) == 3) = true := rfl
      unfold bkL at hR hW
      refine RO.ofv' Try.func10 Try.ntmps10 rfl (goFn_of Try.func10 rfl (by kernel_rfl)) rfl rfl ?_
      ((repeat' (first
    | (show SQ _ _ _ _ _ _ _ _; first | apply sq_nil | (apply q_move; exact rfl; exact rfl) | (apply q_assign; exact rfl; exact rfl) | (apply q_pick_t; (iterate 3 exact rfl); exact (by first | assumption | exact rfl)) | (apply q_pick_f; (iterate 3 exact rfl); exact (by first | assumption | exact rfl)) | (apply q_ext; iterate 3 exact rfl) | (apply q_lenn; exact rfl; exact rfl; exact (ty rfl); exact rfl) | (apply q_eql; iterate 3 exact rfl) | (apply q_neq; iterate 3 exact rfl) | (apply q_g; (iterate 3 exact rfl); exact (by assumption)))
    | (show SQ _ _ _ _ _ _ _ _; (first | (apply q_ldap; exact rfl; exact rfl; exact (ty rfl); exact rfl; exact rfl; exact (by first | rfl | assumption | ((try simp only [Nat.zero_add]); refine List.getElem?_set_self ?_; (try simp only [List.length_set]); assumption)); exact rfl) | (apply q_alloc; exact rfl; exact (ty rfl); exact rfl; exact rfl) | (apply q_store; exact rfl; exact rfl; exact (ty rfl); exact rfl; exact (by first | rfl | assumption | ((try simp only [Nat.zero_add]); refine List.getElem?_set_self ?_; (try simp only [List.length_set]); assumption)); iterate 3 exact rfl) | (apply q_callU; (iterate 3 exact rfl); exact FzL.of rfl; exact hLong _) | (apply q_callU; (iterate 3 exact rfl); exact FzL.of rfl; exact hLong2 _) | (apply q_callU; (iterate 3 exact rfl); rotate_left; exact hR _; rotate_right; focus ((repeat' (first | exact FzL.nil | exact (by assumption : FzC _) _ | refine FzL.cons ?_ ?_ | exact Fz.of rfl | exact Fz.nil | exact Fz.emp | (apply Fz.fnC; assumption) | (apply Fz.sl2; exact rfl; exact (by first | omega | (simp; done) | (simp; omega)); first | exact rfl | exact dt_full (by first | omega | (simp; done) | (simp; omega)) | assumption) | apply Fz.agg | (apply Fz.ptrL; exact rfl; first | exact rfl | assumption) | apply Fz.fnL)); done)) | (apply q_callU; (iterate 3 exact rfl); rotate_left; exact hW _; rotate_right; focus ((repeat' (first | exact FzL.nil | exact (by assumption : FzC _) _ | refine FzL.cons ?_ ?_ | exact Fz.of rfl | exact Fz.nil | exact Fz.emp | (apply Fz.fnC; assumption) | (apply Fz.sl2; exact rfl; exact (by first | omega | (simp; done) | (simp; omega)); first | exact rfl | exact dt_full (by first | omega | (simp; done) | (simp; omega)) | assumption) | apply Fz.agg | (apply Fz.ptrL; exact rfl; first | exact rfl | assumption) | apply Fz.fnL)); done)) | (apply q_callC; (iterate 3 exact rfl); exact hD _; (focus ((repeat (first | exact trivial | refine ⟨by first | exact rfl | assumption, ?_⟩)); done)); skip)); (try simp only [put, rowsOf, plR, selE, ovr, setH, del, cellsA, splice, isV, spq, if_true, if_false]))
    | (show AW _ _ _ _ _ _ _ _; first | refine aw_region ?_ | (refine aw_seqk ?_; intro K hK) | (apply aw_cond_t; exact rfl; exact rfl) | (apply aw_cond_f; exact rfl; exact rfl) | refine aw_ret ?_ | refine aw_skip ?_)
    | refine thn_n ?_
    | (refine hK _ _ _ ?_; clear hK K)
    | refine thn_r ?_)); all_goals (repeat (clear hK K)))
      all_goals exact fin_r (fin_b rfl rfl)
  · have hR := RouteOf_bad_ro n ls a b hn c2
    have hW := Wide_bad_ro n ls a b hn c2
    have b1 : (codeV n ls [a, b] != 0) = true := by simpa using c2
    generalize codeV n ls [a, b] = c at *
    have b2 : (c == c) = true := by simp
    unfold bkL at hR hW
    refine RO.ofv' Try.func10 Try.ntmps10 rfl (goFn_of Try.func10 rfl (by kernel_rfl)) rfl rfl ?_
    ((repeat' (first
    | (show SQ _ _ _ _ _ _ _ _; first | apply sq_nil | (apply q_move; exact rfl; exact rfl) | (apply q_assign; exact rfl; exact rfl) | (apply q_pick_t; (iterate 3 exact rfl); exact (by first | assumption | exact rfl)) | (apply q_pick_f; (iterate 3 exact rfl); exact (by first | assumption | exact rfl)) | (apply q_ext; iterate 3 exact rfl) | (apply q_lenn; exact rfl; exact rfl; exact (ty rfl); exact rfl) | (apply q_eql; iterate 3 exact rfl) | (apply q_neq; iterate 3 exact rfl) | (apply q_g; (iterate 3 exact rfl); exact (by assumption)))
    | (show SQ _ _ _ _ _ _ _ _; (first | (apply q_ldap; exact rfl; exact rfl; exact (ty rfl); exact rfl; exact rfl; exact (by first | rfl | assumption | ((try simp only [Nat.zero_add]); refine List.getElem?_set_self ?_; (try simp only [List.length_set]); assumption)); exact rfl) | (apply q_alloc; exact rfl; exact (ty rfl); exact rfl; exact rfl) | (apply q_store; exact rfl; exact rfl; exact (ty rfl); exact rfl; exact (by first | rfl | assumption | ((try simp only [Nat.zero_add]); refine List.getElem?_set_self ?_; (try simp only [List.length_set]); assumption)); iterate 3 exact rfl) | (apply q_callU; (iterate 3 exact rfl); exact FzL.of rfl; exact hLong _) | (apply q_callU; (iterate 3 exact rfl); exact FzL.of rfl; exact hLong2 _) | (apply q_callU; (iterate 3 exact rfl); rotate_left; exact hR _; rotate_right; focus ((repeat' (first | exact FzL.nil | exact (by assumption : FzC _) _ | refine FzL.cons ?_ ?_ | exact Fz.of rfl | exact Fz.nil | exact Fz.emp | (apply Fz.fnC; assumption) | (apply Fz.sl2; exact rfl; exact (by first | omega | (simp; done) | (simp; omega)); first | exact rfl | exact dt_full (by first | omega | (simp; done) | (simp; omega)) | assumption) | apply Fz.agg | (apply Fz.ptrL; exact rfl; first | exact rfl | assumption) | apply Fz.fnL)); done)) | (apply q_callU; (iterate 3 exact rfl); rotate_left; exact hW _; rotate_right; focus ((repeat' (first | exact FzL.nil | exact (by assumption : FzC _) _ | refine FzL.cons ?_ ?_ | exact Fz.of rfl | exact Fz.nil | exact Fz.emp | (apply Fz.fnC; assumption) | (apply Fz.sl2; exact rfl; exact (by first | omega | (simp; done) | (simp; omega)); first | exact rfl | exact dt_full (by first | omega | (simp; done) | (simp; omega)) | assumption) | apply Fz.agg | (apply Fz.ptrL; exact rfl; first | exact rfl | assumption) | apply Fz.fnL)); done)) | (apply q_callC; (iterate 3 exact rfl); exact hD _; (focus ((repeat (first | exact trivial | refine ⟨by first | exact rfl | assumption, ?_⟩)); done)); skip)); (try simp only [put, rowsOf, plR, selE, ovr, setH, del, cellsA, splice, isV, spq, if_true, if_false]))
    | (show AW _ _ _ _ _ _ _ _; first | refine aw_region ?_ | (refine aw_seqk ?_; intro K hK) | (apply aw_cond_f; exact rfl; exact rfl) | (apply aw_cond_t; exact rfl; exact (by assumption)) | refine aw_ret ?_ | refine aw_skip ?_)
    | refine thn_n ?_
    | (refine hK _ _ _ ?_; clear hK K)
    | refine thn_r ?_)); all_goals (repeat (clear hK K)))
    all_goals exact fin_r (fin_b rfl rfl)
theorem closeFnBackhaul (v u : Value) (w : World) (h : Fr.IsBytes w v) (h2 : Fr.IsBytes w u) : Calls Try.prog 10 #[v, u] w fun r w' => r = .returned (.bool true) ∧ Below w.heap.size w w' := by
  obtain ⟨xs, hv, hs, hn⟩ := h
  obtain ⟨ys, hv2, hs2, hn2⟩ := h2
  exact RO.calls (k := 0) (lawFnBackhaul_ro xs ys hs hn hs2 hn2 0) (K := fun k => k < w.heap.size) (fun _ h => h) (VRs.cons hv (VRs.cons hv2 VRs.nil))
end Go.Proofs.Ytglfcaioapdiaaa.Bk
