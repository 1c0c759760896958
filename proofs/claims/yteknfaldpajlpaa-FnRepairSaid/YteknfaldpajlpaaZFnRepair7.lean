/-
  What the law FnRepair rests on, part 7.
-/
import Derived.Test.YteknfaldpajlpaaZFnRepair6
namespace Go.Proofs.Yteknfaldpajlpaa.Nb
open Go Go.RowKit Go.Proofs.Yteknfaldpajlpaa.Aw Go.Proofs.Yteknfaldpajlpaa.In Go.Proofs.Yteknfaldpajlpaa.Il Go.Proofs.Yteknfaldpajlpaa.Sr
set_option linter.unusedSimpArgs false
set_option linter.unusedVariables false
set_option linter.unusedSectionVars false
theorem sq_frzNA {P : Program} {N n : Nat} {T : Tp} {H : Hp} {all : Array Oper} {l : List Oper} {G : Tp → Hp → Nat → Prop} {k0 m : Nat} {ls : List (List Int)} (t : Nat) (a : AV) (H' : Hp) (ht : Aw.look T t = some (.agg [a, .sl k0 0 m])) (hl : Aw.look H k0 = some (niB k0 ls)) (hn : NstIn H (k0 + 1) (niT ls)) (hm : m = ls.length)
    (ho : subE H H') (hk : ∀ p ∈ H', p.1 < k0) (h : SQ P N all l G ((t, .agg [a, .dsl 1 (nbL ls)]) :: T) H' n) : SQ P N all l G T H n := by
  have hH : ∀ i b, Aw.look H' i = some b → Aw.look H i = some b ∧ ¬ (k0 ≤ i ∧ i ≤ k0 + ls.length) := fun i b hb => ⟨canon0 ho i b hb, fun h => by have := hk _ (look_mem hb); dsimp only at this; omega⟩
  intro Old wi K m a2 w Q hr htt hq
  obtain ⟨gk, hr', ht'⟩ := kd_rel (D := fun i => k0 ≤ i ∧ i ≤ k0 + ls.length) (T1 := [(t, .agg [a, .dsl 1 (nbL ls)])]) hr htt hH fun u v' hu => by
    rw [look_cons] at hu
    split at hu
    · rename_i e
      subst e
      cases hu
      refine ⟨_, ht, fun x hx => ?_⟩
      cases hx with
      | agg _ _ xs hl2 hv =>
      refine .agg _ _ xs hl2 fun j cv y h1 h2 => ?_
      match j, h1 with
      | 0, h1 =>
        rw [List.getElem?_cons_zero, Option.some.injEq] at h1
        subst h1
        exact (hv 0 a y rfl h2).mono (fun k h => .inl h) (fun _ _ => rfl) (fun _ h => h) (fun _ _ => rfl)
      | 1, h1 =>
        rw [List.getElem?_cons_succ, List.getElem?_cons_zero, Option.some.injEq] at h1
        subst h1
        have e : nbL ls = (ls.map fun l => l.map inL).map fun rows => [.dsl 1 rows] := by rw [List.map_map]; rfl
        rw [e]
        refine nest_vr (D := fun i => k0 ≤ i ∧ i ≤ k0 + ls.length) (Ls := ls.map fun l => l.map inL) (ty := 23) (ity := 2) hr ?_ ?_ (fun L hL => ?_) (by rw [List.length_map]; exact hm) (fun i h1 h2 => ⟨h1, by rw [List.length_map] at h2; exact h2⟩) (hv 1 _ y rfl h2)
        · rw [hl]
          unfold niB nestB
          rw [List.map_map]
          have : (List.length ∘ fun l => List.map inL l) = List.length := by funext l; simp
          rw [this]
        · rw [List.map_map]; exact hn
        · obtain ⟨a, _, rfl⟩ := List.mem_map.1 hL
          exact all_noOwn_map fun _ => rfl
      | j + 2, h1 => simp at h1
    · simp [look_nil] at hu
  exact h Old wi _ m a2 w Q hr' ht' fun T' H' n' m' K'' a' w' g2 => hq T' H' n' m' K'' a' w' (gk.trans g2)
theorem getD_at {ap : List (List Int)} {i : Nat} (hi : i < ap.length) : ap.getD i [] = ap[i] := by simp [List.getD, hi]
theorem niT_at {ap : List (List Int)} {i : Nat} (hi : i < ap.length) : (niT ap)[i]? = some ⟨2, 1, true, (ap.getD i []).map inL⟩ := by
  rw [getD_at hi]; simp [niT, hi]
theorem niT_set {ap : List (List Int)} {i : Nat} (l : List Int) : niT (ap.set i l) = (niT ap).set i ⟨2, 1, true, l.map inL⟩ := by
  unfold niT; rw [List.map_set]
theorem inLs_set (l : List Int) (k : Nat) (d : Int) : (l.map inL).set k [.v (.int .i64 d)] = (l.set k d).map inL := by
  rw [List.map_set]; rfl
theorem NstIn.put {H : Hp} {base i k row : Nat} {ap : List (List Int)} {d : Int} (h : NstIn H base (niT ap)) (hi : i < ap.length) (e : row = k) :
    NstIn ((base + i, ⟨2, 1, true, ((ap.getD i []).map inL).set row [.v (.int .i64 d)]⟩) :: Aw.del H (base + i)) base (niT (wrA ap i k d)) := fun j c hc => by
  subst e
  unfold wrA at hc
  rw [niT_set, List.getElem?_set, niT_len] at hc
  rw [look_cons]
  by_cases e : i = j
  · subst e
    rw [if_pos rfl, if_pos hi] at hc
    rw [if_pos rfl, inLs_set]; exact hc
  · rw [if_neg e] at hc
    rw [if_neg (by omega), look_del_ne _ (by omega)]
    exact h j c hc
theorem subE_put {H : Hp} {j : Nat} {B : Blk} : ∀ {O : Hp}, subE H O → (∀ p ∈ O, p.1 < j) → subE ((j, B) :: Aw.del H j) O
  | [], _, _ => trivial
  | p :: O, h, hp => by
    have := hp p (List.mem_cons_self ..)
    refine ⟨?_, subE_put h.2 fun q hq => hp q (List.mem_cons_of_mem _ hq)⟩
    rw [look_cons, if_neg (by omega), look_del_ne _ (by omega)]; exact h.1
theorem row_at {l : List Int} {i : Nat} (h : i < l.length) : (l.map inL)[0 + ((i : Int)).toNat]? = some [.v (.int .i64 (l.getD i 0))] := by
  rw [Nat.zero_add, Int.toNat_natCast]; simp [inL, List.getD, h]
theorem out_at {n i b : Nat} (h : i < n) : (outR b (List.replicate n n))[0 + ((i : Int)).toNat]? = some [.sl (b + i) 0 n] := by
  rw [Nat.zero_add, Int.toNat_natCast, outR_get, List.getElem?_replicate, if_pos h]; rfl
theorem Sq.row {n : Nat} {ap : List (List Int)} (h : Sq n ap) {i : Nat} (hi : i < n) : (ap.getD i []).length = n := by
  rw [getD_at (by rw [h.1]; exact hi)]; exact h.2 _ (List.getElem_mem _)
theorem Sq.lens {n : Nat} {ap : List (List Int)} (h : Sq n ap) : ap.map List.length = List.replicate n n := by
  apply List.eq_replicate_iff.2
  refine ⟨by rw [List.length_map]; exact h.1, fun x hx => ?_⟩
  obtain ⟨l, hl, rfl⟩ := List.mem_map.1 hx
  exact h.2 l hl
theorem lkE_far {id : Nat} : ∀ {E : List (Nat × Option Blk)}, (∀ q ∈ E, q.1 ≠ id) → lkE E id = none
  | [], _ => rfl
  | (i, b) :: E, h => by
    have h0 := h _ (List.mem_cons_self ..)
    rw [lkE]
    have : Nat.beq i id = false := Bool.eq_false_iff.2 fun e => h0 (Nat.eq_of_beq_eq_true e)
    rw [this]
    exact lkE_far fun q hq => h q (List.mem_cons_of_mem _ hq)
theorem selE_far {L : Nat → Bool} {id : Nat} {H : Hp} : ∀ (eff : List (Nat × List (Nat × Option Blk))), (∀ p ∈ eff, ∀ q ∈ p.2, q.1 ≠ id) → Aw.look (selE L eff H) id = Aw.look H id
  | [], _ => rfl
  | (j, E) :: eff, h => by
    have ih := selE_far (L := L) (H := H) eff fun p hp => h p (List.mem_cons_of_mem _ hp)
    rw [selE]
    split
    · rw [look_ovr, lkE_far (h _ (List.mem_cons_self ..))]; exact ih
    · exact ih
theorem effQ_far {sz k id : Nat} {bs : List Nat} {H : Hp} : ∀ {eff : List (Nat × List (Nat × Option Blk))}, (∀ p ∈ eff, ∀ q ∈ p.2, q.1 ≠ id) → effQ sz bs H (k, id) eff
  | [], _ => trivial
  | (j, E) :: eff, h => ⟨by dsimp only; rw [lkE_far (h _ (List.mem_cons_self ..))]; trivial, effQ_far fun p hp => h p (List.mem_cons_of_mem _ hp)⟩
theorem nst_five {B0 B1 B2 B3 B4 : Blk} {bs : List Blk} : NstIn ((0, B0) :: (1, B1) :: (2, B2) :: (3, B3) :: (4, B4) :: nst 5 bs) 5 bs :=
  .cons (by omega) (.cons (by omega) (.cons (by omega) (.cons (by omega) (.cons (by omega) .here'))))
theorem sub_five {g n' : Nat} {T T' : Tp} {H : Hp} {B0 B1 B2 B3 : Blk} {n : Nat} {ap : List (List Int)} (ht : subT T id n' T') (ha : Sq n ap) (hn : n ≤ 25) (h1000 : 1000 ≤ n') (i0 : renB id B0 = B0) (i1 : renB id B1 = B1) (i2 : renB id B2 = B2) (i3 : renB id B3 = B3) (k0 : idsOkB n' B0 = true) (k1 : idsOkB n' B1 = true) (k2 : idsOkB n' B2 = true) (k3 : idsOkB n' B3 = true)
    (ho : subE H [(0, B0), (1, B1), (2, B2), (3, B3), (4, ⟨23, 1, false, outR 5 (List.replicate n n)⟩)]) (hi : NstIn H 5 (niT ap)) (hp : PinOk g id n') :
    Sub g T H id T' ((0, B0) :: (1, B1) :: (2, B2) :: (3, B3) :: (4, ⟨23, 1, false, outR 5 (List.replicate n n)⟩) :: nst 5 (niT ap)) n' := by
  obtain ⟨o0, o1, o2, o3, o4, _⟩ := ho
  refine sub_pre [(0, _), (1, _), (2, _), (3, _), (4, _)] ht ?_ ?_ ?_ ?_ hp
  · simp only [List.forall_mem_cons]
    refine ⟨⟨by rw [i0]; exact o0, k0, by omega⟩, ⟨by rw [i1]; exact o1, k1, by omega⟩, ⟨by rw [i2]; exact o2, k2, by omega⟩, ⟨by rw [i3]; exact o3, k3, by omega⟩, ⟨by rw [renB_oR fun j _ => rfl]; exact o4, outR_ids _ _ (by rw [List.length_replicate]; omega), by omega⟩, by simp⟩
  · intro j c hc
    obtain ⟨hj, rfl⟩ := niT_get hc
    exact ⟨hi j _ hc, rfl⟩
  · rw [niT_len, ha.1]; omega
  · exact fun a c _ _ e => e
end Go.Proofs.Yteknfaldpajlpaa.Nb

namespace Go.Proofs.Yteknfaldpajlpaa.Nb
open Go Go.RowKit Go.Proofs.Yteknfaldpajlpaa.Aw Go.Proofs.Yteknfaldpajlpaa.In Go.Proofs.Yteknfaldpajlpaa.Il Go.Proofs.Yteknfaldpajlpaa.Sr
set_option linter.unusedSimpArgs false
set_option linter.unusedVariables false
set_option linter.unusedSectionVars false
attribute [local irreducible] AW SQ Step RO RC DE Thn InB
def prE (n : Nat) (dd : List (List Int)) (z : Sr × List (List Int)) : Sr × List (List Int) × List (List Int) :=
  if (pk z.1 20).1 = 0 then ((pk z.1 20).2, dd.set 0 [], z.2)
  else if (pk z.1 20).1 = 1 then ((pk z.1 20).2, dd, wrA z.2 0 0 1)
  else if (pk z.1 20).1 = 2 then ((am [-1, 101, 3] (pk (pk z.1 20).2 n).2).2, dd, wrA z.2 (pk (pk z.1 20).2 n).1.toNat 0 (am [-1, 101, 3] (pk (pk z.1 20).2 n).2).1)
  else ((pk z.1 20).2, dd, z.2)
set_option maxRecDepth 100000 in
set_option maxHeartbeats 4000000 in
theorem prob_rc {s : Sr} {k : Int} (h : s.ok k) (hk : k ≤ 1000) (ds ap : List (List Int)) (s' : Sr) (j bi : Nat) (n : Nat) (hn1 : 1 ≤ n) (hn2 : n ≤ 25) (hN : (((pk (pk s 6).2 12).1) == 0) = false) (hnv : IntKind.i64.wrap ((pk s 6).1 + 1) = (n : Int)) (hE : prE n (domsF (pk (pk s 6).2 12).2 n).2 (apF ((domsF (pk (pk s 6).2 12).2 n).1, List.replicate n (List.replicate n 0)) n) = (s', ds, ap)) : RC Try.prog 71 [.ptr bi 0 0] [(bi, ⟨109, 3, false, [srR s]⟩)] j (.agg [.dsl 1 (nbL ds), .dsl 1 (nbL ap)]) [(bi, some ⟨109, 3, false, [srR s']⟩)] j := by
  have h1 := fun id => pick_rc id s 6 (h.mono (by omega)) (by omega)
  have h2 := fun id => one_rc id (pk s 6).2 12 ((pk_ok 6 h).mono (by omega)) (by omega)
  have ok2 := pk_ok 12 (pk_ok 6 h)
  refine RC.ofc [bi] 0 [.ptr 0 0 0] [(0, ⟨109, 3, false, [srR s]⟩)] (.agg [.dsl 1 (nbL ds), .dsl 1 (nbL ap)]) [(0, some ⟨109, 3, false, [srR s']⟩)] Try.func71 Try.ntmps71 rfl (goFn_of Try.func71 rfl (by kernel_rfl)) rfl rfl rfl rfl rfl rfl rfl rfl (by simp_all) rfl ?_
  ((repeat' (first
    | (show SQ _ _ _ _ _ _ _ _; first | apply sq_nil | (apply q_move; exact rfl; exact rfl) | (apply q_assign; exact rfl; exact rfl) | (apply q_add; exact rfl; exact rfl; exact rfl) | (apply q_build; exact rfl; exact (ty rfl); exact rfl; exact rfl; exact rfl))
    | (show SQ _ _ _ _ _ _ _ _; (first | (apply q_alloc; exact rfl; exact (ty rfl); exact rfl; exact rfl) | (apply q_store; exact rfl; exact rfl; exact (ty rfl); exact rfl; exact (by first | rfl | assumption | ((try simp only [Nat.zero_add]); refine List.getElem?_set_self ?_; (try simp only [List.length_set]); assumption)); exact rfl; exact rfl; exact rfl) | (apply q_callC; exact rfl; exact rfl; exact rfl; exact h1 0 _; (focus ((repeat (first | exact trivial | refine ⟨by first | exact rfl | assumption, ?_⟩)); done)); skip) | (apply q_callC; exact rfl; exact rfl; exact rfl; exact h2 0 _; (focus ((repeat (first | exact trivial | refine ⟨by first | exact rfl | assumption, ?_⟩)); done)); skip)); (try simp only [put, rowsOf, plR, List.all_cons, selE, ovr, setH, del, cellsA, splice, isV, List.nil_append, List.cons_append, List.map_cons, List.map_nil, List.length_cons, List.length_nil, List.set_cons_zero, List.set_cons_succ, List.take_succ_cons, List.take_zero, List.take_nil, List.drop_succ_cons, List.drop_zero, List.drop_nil, List.append_nil, List.all_cons, List.all_nil, Bool.and_true, Bool.true_and, Bool.and_false, Bool.false_and, Nat.reduceAdd, Nat.zero_add, Nat.add_zero, Nat.reduceEqDiff, if_true, if_false, reduceIte]))
    | (show AW _ _ _ _ _ _ _ _; first | refine aw_region ?_ | (refine aw_seqk ?_; intro K hK) | refine aw_block ?_ | (apply aw_cond_f; exact rfl; exact (by assumption)) | refine aw_skip ?_)
    | refine thn_n ?_
    | (refine hK _ _ _ ?_; clear hK K))); all_goals (repeat (clear hK K)))
  rw [hnv]
  generalize (pk (pk s 6).2 12).2 = s2 at *
  refine aw_nilB 2 0 0 23 1 rfl rfl rfl rfl rfl ?_
  refine aw_nilB 2 0 1 23 1 rfl rfl rfl rfl rfl ?_
  refine aw_unpl 3 rfl ?_
  refine aw_unpl 4 rfl ?_
  show AW _ _ 1 _ _ _ _ _
  refine aw_loop (ρ := id) (ι := Nat) (fun i => ([(5, .v (.int .i64 i)), (4, .ptr 2 0 0), (3, .v (.int .i64 (n : Int))), (2, .ptr 1 0 0), (0, .ptr 0 0 0)],
      (0, ⟨109, 3, false, [srR (domsF s2 i).1]⟩) :: (1, ⟨50, 2, false, [[.v (.slice none 0 0), .v (.slice none 0 0)]]⟩) :: (2, ⟨50, 2, false, [[.sl 3 0 i, .sl 4 0 i]]⟩) :: (3, ⟨23, 1, false, nbL (domsF s2 i).2⟩) :: (4, ⟨23, 1, false, outR 5 (List.replicate i n)⟩) :: nst 5 (zrN n i), 1000))
    (fun i => i ≤ n) (fun i => n - i) 0 (Nat.zero_le _) ⟨by (repeat (refine ⟨by first | exact lk_i rfl rfl | exact lk_r rfl rfl rfl, ?_⟩)); exact trivial, by (repeat (refine ⟨by first | exact ⟨rfl, rfl, rfl⟩, ?_⟩)); exact trivial, by rfl, by (intro i hi; (try dsimp only); refine ⟨?_, ?_⟩ <;> first | rfl | omega | (simp at hi; omega) | (simp; omega))⟩ ?_
  intro i hi
  (try dsimp only)
  obtain ⟨k1, k2, k3⟩ := domsF_ok ok2 i
  have hzl := zrN_len n i
  have hol : (outR 5 (List.replicate i n)).length = i := by rw [outR_len, List.length_replicate]
  have hnt : ((n : Int)).toNat = n := Int.toNat_natCast n
  by_cases c1 : i < n
  · have b1 : decide ((i : Int) < (n : Int)) = true := by simpa using c1
    have hw : IntKind.i64.wrap ((i : Int) + 1) = ((i + 1 : Nat) : Int) := by rw [IntWalk.i64_in _ (by omega)]; omega
    have hdS : domsF s2 (i + 1) = ((dom1 (domsF s2 i).1).1, (domsF s2 i).2 ++ [(dom1 (domsF s2 i).1).2]) := rfl
    have hnl := nbL_len (domsF s2 i).2
    generalize domsF s2 i = Z at *
    obtain ⟨si, di⟩ := Z
    dsimp only at k1 k2 k3 hdS hnl ⊢
    have p1 := fun id => pick_rc id si 5 (k1.mono (by omega)) (by omega)
    have ok3 := pk_ok 5 k1
    have p2 := fun id => pick_rc id (pk si 5).2 6 (ok3.mono (by omega)) (by omega)
    have hq := domQ_le si
    have d0 := dom0_ok k1
    ((repeat' (first
    | (show SQ _ _ _ _ _ _ _ _; first | apply sq_nil | (apply q_move; exact rfl; exact rfl) | (apply q_assign; exact rfl; exact rfl) | (apply q_lss; exact rfl; exact rfl; exact rfl))
    | (show SQ _ _ _ _ _ _ _ _; (first | (apply q_buildn; exact rfl; exact (ty rfl); exact rfl; exact rfl; exact rfl; exact rfl; exact rfl; exact rfl; exact rfl) | (apply q_callC; exact rfl; exact rfl; exact rfl; exact p1 0 _; (focus ((repeat (first | exact trivial | refine ⟨by first | exact rfl | assumption, ?_⟩)); done)); skip) | (apply q_callC; exact rfl; exact rfl; exact rfl; exact p2 0 _; (focus ((repeat (first | exact trivial | refine ⟨by first | exact rfl | assumption, ?_⟩)); done)); skip)); (try simp only [put, rowsOf, plR, List.all_cons, selE, ovr, setH, del, cellsA, splice, isV, List.nil_append, List.cons_append, List.map_cons, List.map_nil, List.length_cons, List.length_nil, List.set_cons_zero, List.set_cons_succ, List.take_succ_cons, List.take_zero, List.take_nil, List.drop_succ_cons, List.drop_zero, List.drop_nil, List.append_nil, List.all_cons, List.all_nil, Bool.and_true, Bool.true_and, Bool.and_false, Bool.false_and, Nat.reduceAdd, Nat.zero_add, Nat.add_zero, Nat.reduceEqDiff, if_true, if_false, reduceIte]))
    | (show AW _ _ _ _ _ _ _ _; first | refine aw_region ?_ | (refine aw_seqk ?_; intro K hK) | refine aw_block ?_ | (apply aw_cond_t; exact rfl; exact (by assumption)) | refine aw_skip ?_)
    | refine thn_n ?_
    | (refine hK _ _ _ ?_; clear hK K))); all_goals (repeat (clear hK K)))
    rw [hq.2]
    refine aw_loop (ρ := id) (ι := Nat) (fun j => ([(7, .v (.int .i64 ((domQ si : Int) - (j : Int)))), (6, .sl 1000 0 (ptF 9 (dom0 si) j).2.length), (5, .v (.int .i64 i)), (4, .ptr 2 0 0), (3, .v (.int .i64 (n : Int))), (2, .ptr 1 0 0), (0, .ptr 0 0 0)],
        (1000, ⟨2, 1, true, (ptF 9 (dom0 si) j).2.map inL⟩) :: (0, ⟨109, 3, false, [srR (ptF 9 (dom0 si) j).1]⟩) :: (1, ⟨50, 2, false, [[.v (.slice none 0 0), .v (.slice none 0 0)]]⟩) :: (2, ⟨50, 2, false, [[.sl 3 0 i, .sl 4 0 i]]⟩) :: (3, ⟨23, 1, false, nbL di⟩) :: (4, ⟨23, 1, false, outR 5 (List.replicate i n)⟩) :: nst 5 (zrN n i), 1001))
      (fun j => j ≤ domQ si) (fun j => domQ si - j) 0 (Nat.zero_le _) ?_ ?_
    · refine sub_pre [(1000, _), (0, _), (1, _), (2, _), (3, _), (4, _)] ⟨lk_i rfl (by omega), lk_s rfl rfl rfl rfl, lk_i rfl rfl, ⟨rfl, rfl⟩, lk_i rfl rfl, ⟨rfl, rfl⟩, ⟨rfl, rfl⟩, trivial⟩ ?_ ?_ ?_ ?_ ?_
      · simp only [List.forall_mem_cons]
        refine ⟨⟨rfl, rfl, by decide⟩, ⟨rfl, rfl, by decide⟩, ⟨rfl, rfl, by decide⟩, ⟨rfl, rfl, by decide⟩, ⟨by show _ = some (renB (fun i => i) _); rw [renB_id]; rfl, nbL_ids _ _, by decide⟩, ⟨by show _ = some (renB (fun i => i) _); rw [renB_id]; rfl, outR_ids _ _ (by rw [List.length_replicate]; omega), by decide⟩, by simp⟩
      · intro j c hc
        obtain ⟨hj, rfl⟩ := zrN_get hc
        refine ⟨?_, rfl⟩
        show Aw.look _ (5 + j) = _
        rw [look_cons, if_neg (by omega), look_cons, if_neg (by omega), look_cons, if_neg (by omega), look_cons, if_neg (by omega), look_cons, if_neg (by omega), look_cons, if_neg (by omega), look_del_ne _ (by omega), look_del_ne _ (by omega), look_nst_at]
        exact hc
      · show 5 + (zrN n i).length ≤ 1001; rw [hzl]; omega
      · exact fun a c _ _ e => e
      · exact fun i hi => ⟨rfl, by show i < 1001; omega⟩
    · intro j hj
      (try dsimp only)
      obtain ⟨g1, g2⟩ := ptF_ok (m := 9) d0 j
      have hpS : ptF 9 (dom0 si) (j + 1) = ((pk (ptF 9 (dom0 si) j).1 9).2, putV (ptF 9 (dom0 si) j).2 (pk (ptF 9 (dom0 si) j).1 9).1) := rfl
      have hdl : (dom0 si).2.length = 1 := rfl
      by_cases c2 : j < domQ si
      · have b2 : decide ((0 : Int) < (domQ si : Int) - (j : Int)) = true := by rw [decide_eq_true_eq]; omega
        have hw2 : IntKind.i64.wrap ((domQ si : Int) - (j : Int) - 1) = (domQ si : Int) - ((j + 1 : Nat) : Int) := by have := hq.1; rw [IntWalk.i64_in _ (by omega)]; omega
        have hql := hq.1
        generalize ptF 9 (dom0 si) j = Z at *
        obtain ⟨sj, xj⟩ := Z
        dsimp only at g1 g2 hpS ⊢
        have p3 := fun id => pick_rc id sj 9 (g1.mono (by omega)) (by omega)
        have hxm : (xj.map inL).length = xj.length := List.length_map _
        have hPu := l00Put_ro xj (pk sj 9).1 (by omega)
        ((repeat' (first
    | (show SQ _ _ _ _ _ _ _ _; first | apply sq_nil | (apply q_move; exact rfl; exact rfl) | (apply q_assign; exact rfl; exact rfl) | (apply q_sub; exact rfl; exact rfl; exact rfl) | (apply q_gtr; exact rfl; exact rfl; exact rfl))
    | (show SQ _ _ _ _ _ _ _ _; (first | (apply q_callU; exact rfl; exact rfl; exact rfl; rotate_left; exact hPu _; rotate_right; focus ((repeat' (first | exact FzL.nil | exact (by assumption : FzC _) _ | refine FzL.cons ?_ ?_ | exact Fz.of rfl | exact Fz.nil | exact Fz.emp | (apply Fz.fnC; assumption) | (apply Fz.sl2; exact rfl; exact (by first | omega | (simp; done) | (simp; omega)); first | exact rfl | exact dt_full (by first | omega | (simp; done) | (simp; omega)) | assumption) | apply Fz.agg | (apply Fz.ptrL; exact rfl; first | exact rfl | assumption) | apply Fz.fnL)); done)) | (apply q_callC; exact rfl; exact rfl; exact rfl; exact p3 0 _; (focus ((repeat (first | exact trivial | refine ⟨by first | exact rfl | assumption, ?_⟩)); done)); skip)); (try simp only [put, rowsOf, plR, List.all_cons, selE, ovr, setH, del, cellsA, splice, isV, List.nil_append, List.cons_append, List.map_cons, List.map_nil, List.length_cons, List.length_nil, List.set_cons_zero, List.set_cons_succ, List.take_succ_cons, List.take_zero, List.take_nil, List.drop_succ_cons, List.drop_zero, List.drop_nil, List.append_nil, List.all_cons, List.all_nil, Bool.and_true, Bool.true_and, Bool.and_false, Bool.false_and, Nat.reduceAdd, Nat.zero_add, Nat.add_zero, Nat.reduceEqDiff, if_true, if_false, reduceIte]))
    | (show AW _ _ _ _ _ _ _ _; first | refine aw_region ?_ | (refine aw_seqk ?_; intro K hK) | refine aw_block ?_ | (apply aw_cond_t; exact rfl; exact (by assumption)) | refine aw_skip ?_)
    | refine thn_n ?_
    | (refine hK _ _ _ ?_; clear hK K)
    | refine inb_n ?_)); all_goals (repeat (clear hK K)))
        refine ⟨j + 1, mv 1000 1001, c2, by omega, ?_⟩
        (try dsimp only)
        rw [hpS, ← hw2]
        refine sub_pre [(1000, _), (0, _), (1, _), (2, _), (3, _), (4, _)] ⟨⟨rfl, rfl⟩, ⟨rfl, rfl⟩, ⟨rfl, rfl⟩, ⟨rfl, rfl⟩, ⟨rfl, rfl⟩, ⟨rfl, rfl⟩, ⟨rfl, rfl⟩, trivial⟩ ?_ ?_ ?_ ?_ ?_
        · simp only [List.forall_mem_cons]
          refine ⟨⟨rfl, rfl, by decide⟩, ⟨rfl, rfl, by decide⟩, ⟨rfl, rfl, by decide⟩, ⟨rfl, rfl, by decide⟩, ⟨?_, nbL_ids _ _, by decide⟩, ⟨?_, outR_ids _ _ (by rw [List.length_replicate]; omega), by decide⟩, by simp⟩
          · rw [renB_nb]; rfl
          · rw [renB_oR fun j hj => by rw [List.length_replicate] at hj; rw [mv, if_neg (by omega)]]; rfl
        · intro j c hc
          obtain ⟨hj, rfl⟩ := zrN_get hc
          refine ⟨?_, rfl⟩
          rw [mv, if_neg (by omega)]
          rw [look_cons, if_neg (by omega), look_cons, if_neg (by omega), look_cons, if_neg (by omega), look_cons, if_neg (by omega), look_cons, if_neg (by omega), look_cons, if_neg (by omega), look_cons, if_neg (by omega), look_del_ne _ (by omega), look_nst_at]
          exact hc
        · show 5 + (zrN n i).length ≤ 1001; rw [hzl]; omega
        · intro a c ha hc e
          have hb : ∀ a, (a ∈ ([1000, 0, 1, 2, 3, 4] : List Nat) ∨ 5 ≤ a ∧ a < 5 + (zrN n i).length) → a ≤ 1000 := fun a h => by
            rcases h with h | h
            · simp at h; omega
            · rw [hzl] at h; omega
          have h1 := hb a ha
          have h2 := hb c hc
          unfold mv at e
          split at e <;> split at e <;> omega
        · exact fun i hi => ⟨by rw [mv, if_neg (by omega)], by show i < 1001; omega⟩
      · have b2 : decide ((0 : Int) < (domQ si : Int) - (j : Int)) = false := by rw [decide_eq_false_iff_not]; omega
        obtain rfl : j = domQ si := by omega
        have hd1 : ptF 9 (dom0 si) (domQ si) = dom1 si := rfl
        rw [hd1]
        have ⟨g3, g4⟩ := dom1_ok k1
        generalize dom1 si = Z at *
        obtain ⟨sj, dj⟩ := Z
        dsimp only at hdS g3 g4 ⊢
        have hjm : (dj.map inL).length = dj.length := List.length_map _
        ((repeat' (first
    | (show SQ _ _ _ _ _ _ _ _; apply sq_frz (t := 41); exact rfl; exact rfl; exact (by first | rfl | exact all_noOwn_map (fun _ => rfl) | assumption | exact hclo); exact (by first | omega | (simp; done) | (simp; omega)); exact (by first | exact dt_full (by first | omega | (simp; done) | (simp; omega)) | assumption | rfl); (try simp only [put, rowsOf, plR, List.all_cons, selE, ovr, setH, del, cellsA, splice, isV, List.nil_append, List.cons_append, List.map_cons, List.map_nil, List.length_cons, List.length_nil, List.set_cons_zero, List.set_cons_succ, List.take_succ_cons, List.take_zero, List.take_nil, List.drop_succ_cons, List.drop_zero, List.drop_nil, List.append_nil, List.all_cons, List.all_nil, Bool.and_true, Bool.true_and, Bool.and_false, Bool.false_and, Nat.reduceAdd, Nat.zero_add, Nat.add_zero, Nat.reduceEqDiff, if_true, if_false, reduceIte]))
    | (show SQ _ _ _ _ _ _ _ _; first | apply sq_nil | (apply q_move; exact rfl; exact rfl) | (apply q_assign; exact rfl; exact rfl) | (apply q_fieldAddr; exact rfl; exact rfl; exact (ty rfl); exact rfl; exact rfl; exact rfl; exact rfl) | (apply q_add; exact rfl; exact rfl; exact rfl) | (apply q_gtr; exact rfl; exact rfl; exact rfl) | (apply q_ld1p; exact rfl; exact rfl; exact (ty rfl); exact rfl; exact rfl; exact (by first | rfl | assumption | ((try simp only [Nat.zero_add]); refine List.getElem?_set_self ?_; (try simp only [List.length_set]); assumption)); exact rfl))
    | (show SQ _ _ _ _ _ _ _ _; (first | (apply q_store; exact rfl; exact rfl; exact (ty rfl); exact rfl; exact (by first | rfl | assumption | ((try simp only [Nat.zero_add]); refine List.getElem?_set_self ?_; (try simp only [List.length_set]); assumption)); exact rfl; exact rfl; exact rfl) | (apply q_buildn; exact rfl; exact (ty rfl); exact rfl; exact rfl; exact rfl; exact rfl; exact rfl; exact rfl; exact rfl) | (apply q_apo_s; exact rfl; exact rfl; exact rfl; exact (ty rfl); exact rfl; exact rfl; exact (by first | omega | (simp; done) | (simp; omega)); exact (by first | exact List.take_of_length_le (by first | omega | (simp; done) | (simp; omega)) | rfl); exact (ty rfl); exact rfl; exact rfl; exact (by first | omega | (simp; done) | (simp; omega)); exact (by first | exact dt_full (by first | omega | (simp; done) | (simp; omega)) | assumption | rfl); exact rfl; exact (by first | omega | (simp; done) | (simp; omega)); exact (by first | omega | (simp; done) | (simp; omega)); exact (by first | assumption | exact rfl))); (try simp only [put, rowsOf, plR, List.all_cons, selE, ovr, setH, del, cellsA, splice, isV, List.nil_append, List.cons_append, List.map_cons, List.map_nil, List.length_cons, List.length_nil, List.set_cons_zero, List.set_cons_succ, List.take_succ_cons, List.take_zero, List.take_nil, List.drop_succ_cons, List.drop_zero, List.drop_nil, List.append_nil, List.all_cons, List.all_nil, Bool.and_true, Bool.true_and, Bool.and_false, Bool.false_and, Nat.reduceAdd, Nat.zero_add, Nat.add_zero, Nat.reduceEqDiff, if_true, if_false, reduceIte]))
    | (show DE _ _ _ _ _ _ _ _ _ _ _ _; first | (apply e_move; exact rfl; exact rfl; exact rfl) | (apply e_fieldAddr; exact rfl; exact rfl; exact (ty rfl); exact rfl; exact rfl; exact rfl; exact rfl; exact rfl) | (apply e_ld1p; exact rfl; exact rfl; exact (ty rfl); exact rfl; exact rfl; exact (by first | rfl | assumption | ((try simp only [Nat.zero_add]); refine List.getElem?_set_self ?_; (try simp only [List.length_set]); assumption)); exact rfl; exact rfl))
    | (show DE _ _ _ _ _ _ _ _ _ _ _ _; (first | (apply dr_nil; exact trivial) | (apply e_store; exact rfl; exact rfl; exact (ty rfl); exact rfl; exact (by first | rfl | assumption | ((try simp only [Nat.zero_add]); refine List.getElem?_set_self ?_; (try simp only [List.length_set]); assumption)); exact rfl; exact rfl; exact rfl; exact rfl) | (apply e_mks; exact rfl; exact rfl; exact rfl; exact (ty rfl); exact rfl; exact (by first | omega | (simp; done) | (simp; omega)); exact (by first | omega | (simp; done) | (simp; omega)); exact (by first | omega | (simp; done) | (simp; omega)); exact (by first | omega | (simp; done) | (simp; omega)); exact rfl; exact rfl; exact rfl) | (apply e_buildn; exact rfl; exact (ty rfl); exact rfl; exact rfl; exact rfl; exact rfl; exact rfl; exact rfl; exact rfl; exact rfl) | (apply e_apo_s; exact rfl; exact rfl; exact rfl; exact (ty rfl); exact rfl; exact rfl; exact (by first | omega | (simp; done) | (simp; omega)); exact (by first | exact List.take_of_length_le (by first | omega | (simp; done) | (simp; omega)) | rfl); exact (ty rfl); exact rfl; exact rfl; exact (by first | omega | (simp; done) | (simp; omega)); exact (by first | exact dt_full (by first | omega | (simp; done) | (simp; omega)) | assumption | rfl); exact rfl; exact (by first | omega | (simp; done) | (simp; omega)); exact (by first | omega | (simp; done) | (simp; omega)); exact (by first | assumption | exact rfl); exact rfl)); (try simp only [put, rowsOf, plR, List.all_cons, selE, ovr, setH, del, cellsA, splice, isV, List.nil_append, List.cons_append, List.map_cons, List.map_nil, List.length_cons, List.length_nil, List.set_cons_zero, List.set_cons_succ, List.take_succ_cons, List.take_zero, List.take_nil, List.drop_succ_cons, List.drop_zero, List.drop_nil, List.append_nil, List.all_cons, List.all_nil, Bool.and_true, Bool.true_and, Bool.and_false, Bool.false_and, Nat.reduceAdd, Nat.zero_add, Nat.add_zero, Nat.reduceEqDiff, if_true, if_false, reduceIte]))
    | (show AW _ _ _ _ _ _ _ _; first | refine aw_region ?_ | (refine aw_seqk ?_; intro K hK) | (apply aw_cond_f; exact rfl; exact (by assumption)) | refine aw_exit ?_ | refine aw_drawE (id := 14) [0, 1, 0, 4, 12, 31, 63, 127] [0, 1, 0, 1, 1, 2, 0, 2] mixed (by kernel_rfl) ?_)
    | refine thn_n ?_
    | (refine hK _ _ _ ?_; clear hK K)
    | refine thn_e ?_
    | refine inb_same ?_
    | refine inb_n ?_
    | (clear hK K; refine hK _ _ _ ?_; clear hK K))); all_goals (repeat (clear hK K)))
        rw [hnt]
        refine ⟨i + 1, fun z => if z < 3 then z else if z = 3 then 1002 else if z = 4 then 1005 else if z = 5 + i then 1003 else z, c1, by omega, ?_⟩
        (try dsimp only)
        rw [hdS, ← hw]
        have hlr : (List.replicate i n).length = i := List.length_replicate
        refine sub_pre [(0, _), (1, _), (2, _), (3, _), (4, _)] ⟨⟨rfl, rfl⟩, ⟨rfl, rfl⟩, ⟨rfl, rfl⟩, ⟨rfl, rfl⟩, ⟨rfl, rfl⟩, trivial⟩ ?_ ?_ ?_ ?_ ?_
        · simp only [List.forall_mem_cons]
          refine ⟨⟨?_, rfl, by decide⟩, ⟨?_, rfl, by decide⟩, ⟨?_, rfl, by decide⟩, ⟨?_, nbL_ids _ _, by decide⟩, ⟨?_, outR_ids _ _ (by rw [List.length_replicate]; omega), by decide⟩, by simp⟩
          · rfl
          · rfl
          · rfl
          · rw [renB_nb, nbL_app]; rfl
          · show Aw.look _ 1005 = some (⟨23, 1, false, (outR 5 (List.replicate (i + 1) n)).map (renL _)⟩ : Blk)
            rw [List.replicate_succ', outR_app, List.map_append, outR_ren (List.replicate i n) 5 5 fun j hj => by rw [hlr] at hj; rw [if_neg (by omega), if_neg (by omega), if_neg (by omega), if_neg (by omega)]]
            simp only [outR, List.map_cons, List.map_nil, renL, renA, hlr]
            first | rw [if_neg (by omega), if_neg (by omega), if_neg (by omega), if_pos rfl] | rw [if_neg (by omega), if_neg (by omega), if_neg (by omega), if_pos trivial] | simp only [if_true]
            rfl
        · intro j c hc
          obtain ⟨hj, rfl⟩ := zrN_get hc
          refine ⟨?_, rfl⟩
          by_cases e : j = i
          · subst e
            rw [if_neg (by omega), if_neg (by omega), if_neg (by omega), if_pos rfl, List.map_replicate]
            rfl
          · rw [if_neg (by omega), if_neg (by omega), if_neg (by omega), if_neg (by omega)]
            iterate 8 rw [look_cons, if_neg (by omega)]
            iterate 8 rw [look_del_ne _ (by omega)]
            rw [look_nst_at]
            simp [zrN, show j < i by omega]
        · show 5 + (zrN n (i + 1)).length ≤ 1000; rw [zrN_len]; omega
        · intro a c ha hc e
          have hb : ∀ a, (a ∈ ([0, 1, 2, 3, 4] : List Nat) ∨ 5 ≤ a ∧ a < 5 + (zrN n (i + 1)).length) → a ≤ 5 + i := fun a h => by
            rcases h with h | h
            · simp at h; omega
            · rw [zrN_len] at h; omega
          have h1 := hb a ha
          have h2 := hb c hc
          (try dsimp only at e)
          repeat' (split at e)
          all_goals omega
        · exact fun i hi => ⟨by rw [if_pos (by omega)], by show i < 1000; omega⟩
  · have b1 : decide ((i : Int) < (n : Int)) = false := by simpa using c1
    obtain rfl : i = n := by omega
    have hzn : zrN i i = niT (List.replicate i (List.replicate i 0)) := by simp [zrN, niT]
    have hZ0 : ∃ Z, domsF s2 i = Z := ⟨_, rfl⟩
    obtain ⟨⟨s3, dd⟩, hZ⟩ := hZ0
    rw [hZ] at k1 k2 k3 hE ⊢
    dsimp only at k1 k2 k3 hE ⊢
    rw [hzn]
    ((repeat' (first
    | (show SQ _ _ _ _ _ _ _ _; first | apply sq_nil | (apply q_move; exact rfl; exact rfl) | (apply q_assign; exact rfl; exact rfl) | (apply q_lss; exact rfl; exact rfl; exact rfl))
    | (show AW _ _ _ _ _ _ _ _; first | refine aw_region ?_ | (refine aw_seqk ?_; intro K hK) | refine aw_block ?_ | (apply aw_cond_f; exact rfl; exact (by assumption)) | refine aw_exit ?_)
    | refine thn_n ?_
    | (refine hK _ _ _ ?_; clear hK K)
    | refine thn_e ?_
    | refine inb_same ?_
    | (clear hK K; refine hK _ _ _ ?_; clear hK K))); all_goals (repeat (clear hK K)))
    show AW _ _ 1 _ _ _ _ _
    refine aw_loop (ρ := id) (ι := Nat) (fun r => ([(8, .v (.int .i64 r)), (4, .ptr 2 0 0), (3, .v (.int .i64 (i : Int))), (2, .ptr 1 0 0), (0, .ptr 0 0 0)],
        (0, ⟨109, 3, false, [srR (apF (s3, List.replicate i (List.replicate i 0)) r).1]⟩) :: (1, ⟨50, 2, false, [[.v (.slice none 0 0), .v (.slice none 0 0)]]⟩) :: (2, ⟨50, 2, false, [[.sl 3 0 i, .sl 4 0 i]]⟩) :: (3, ⟨23, 1, false, nbL dd⟩) :: (4, ⟨23, 1, false, outR 5 (List.replicate i i)⟩) :: nst 5 (niT (apF (s3, List.replicate i (List.replicate i 0)) r).2), 1000))
      (fun r => r ≤ i) (fun r => i - r) 0 (Nat.zero_le _) ?_ ?_
    · refine sub_pre [(0, _), (1, _), (2, _), (3, _), (4, _)] ⟨lk_i rfl rfl, ⟨rfl, rfl⟩, lk_i rfl rfl, ⟨rfl, rfl⟩, ⟨rfl, rfl⟩, trivial⟩ ?_ ?_ ?_ ?_ ?_
      · simp only [List.forall_mem_cons]
        refine ⟨⟨rfl, rfl, by decide⟩, ⟨rfl, rfl, by decide⟩, ⟨rfl, rfl, by decide⟩, ⟨by rw [renB_nb]; rfl, nbL_ids _ _, by decide⟩, ⟨by rw [renB_oR fun j _ => rfl]; rfl, outR_ids _ _ (by rw [List.length_replicate]; omega), by decide⟩, by simp⟩
      · intro j c hc
        have hc2 := hc
        obtain ⟨hj, rfl⟩ := niT_get hc2
        refine ⟨?_, rfl⟩
        show Aw.look _ (5 + j) = _
        iterate 5 rw [look_cons, if_neg (by omega)]
        rw [look_nst_at]
        exact hc
      · show 5 + (niT (List.replicate i (List.replicate i 0))).length ≤ 1000; rw [niT_len, List.length_replicate]; omega
      · exact fun a c _ _ e => e
      · exact fun i hi => ⟨rfl, by show i < 1000; omega⟩
    · intro r hr
      (try dsimp only)
      obtain ⟨k4, k5⟩ := apF_ok (n := i) (z := (s3, List.replicate i (List.replicate i 0))) k1 (Sq.zero i) hn2 r hr
      by_cases c2 : r < i
      · have b2 : decide ((r : Int) < (i : Int)) = true := by simpa using c2
        have hwr : IntKind.i64.wrap ((r : Int) + 1) = ((r + 1 : Nat) : Int) := by rw [IntWalk.i64_in _ (by omega)]; omega
        have hFS : apF (s3, List.replicate i (List.replicate i 0)) (r + 1) = apR r (apF (s3, List.replicate i (List.replicate i 0)) r) r := rfl
        generalize apF (s3, List.replicate i (List.replicate i 0)) r = Z at *
        ((repeat' (first
    | (show SQ _ _ _ _ _ _ _ _; first | apply sq_nil | (apply q_move; exact rfl; exact rfl) | (apply q_assign; exact rfl; exact rfl) | (apply q_lss; exact rfl; exact rfl; exact rfl))
    | (show AW _ _ _ _ _ _ _ _; first | refine aw_region ?_ | (refine aw_seqk ?_; intro K hK) | refine aw_block ?_ | (apply aw_cond_t; exact rfl; exact (by assumption)) | refine aw_skip ?_)
    | refine thn_n ?_
    | (refine hK _ _ _ ?_; clear hK K))); all_goals (repeat (clear hK K)))
        refine aw_loop (ρ := id) (ι := Nat) (fun q => ([(9, .v (.int .i64 q)), (8, .v (.int .i64 r)), (4, .ptr 2 0 0), (3, .v (.int .i64 (i : Int))), (2, .ptr 1 0 0), (0, .ptr 0 0 0)],
            (0, ⟨109, 3, false, [srR (apR r Z q).1]⟩) :: (1, ⟨50, 2, false, [[.v (.slice none 0 0), .v (.slice none 0 0)]]⟩) :: (2, ⟨50, 2, false, [[.sl 3 0 i, .sl 4 0 i]]⟩) :: (3, ⟨23, 1, false, nbL dd⟩) :: (4, ⟨23, 1, false, outR 5 (List.replicate i i)⟩) :: nst 5 (niT (apR r Z q).2), 1000))
          (fun q => q ≤ r) (fun q => r - q) 0 (Nat.zero_le _) ?_ ?_
        · exact sub_five ⟨lk_i rfl rfl, lk_i rfl rfl, ⟨rfl, rfl⟩, lk_i rfl rfl, ⟨rfl, rfl⟩, ⟨rfl, rfl⟩, trivial⟩ k5 hn2 (Nat.le_refl _) rfl rfl rfl (renB_nb _ _ _) rfl rfl rfl (nbL_ids _ _) ⟨rfl, rfl, rfl, rfl, rfl, trivial⟩ nst_five (fun i hi => ⟨rfl, by show i < 1000; omega⟩)
        · intro q hq
          (try dsimp only)
          obtain ⟨g1, g2⟩ := apR_ok (n := i) k4 k5 c2 q hq
          by_cases c3 : q < r
          · have b3 : decide ((q : Int) < (r : Int)) = true := by simpa using c3
            have hw3 : IntKind.i64.wrap ((q : Int) + 1) = ((q + 1 : Nat) : Int) := by rw [IntWalk.i64_in _ (by omega)]; omega
            have hRS : apR r Z (q + 1) = if ((pk (apR r Z q).1 2).1 == 0) = true then ((pk (pk (apR r Z q).1 2).2 3).2, wrA (wrA (apR r Z q).2 r q (pk (pk (apR r Z q).1 2).2 3).1) q r (pk (pk (apR r Z q).1 2).2 3).1) else ((pk (apR r Z q).1 2).2, (apR r Z q).2) := rfl
            generalize apR r Z q = Y at *
            obtain ⟨sq, aq⟩ := Y
            dsimp only at g1 g2 hRS ⊢
            have p4 := fun id => one_rc id sq 2 (g1.mono (by omega)) (by omega)
            have p5 := fun id => pick_rc id (pk sq 2).2 3 ((pk_ok 2 g1).mono (by omega)) (by omega)
            by_cases c4 : ((pk sq 2).1 == 0) = true
            · rw [if_pos c4] at hRS
              have hor := out_at (b := 5) c2
              have hrr := row_at (l := aq.getD r []) (i := q) (by rw [g2.row c2]; omega)
              ((repeat' (first
    | (show SQ _ _ _ _ _ _ _ _; first | apply sq_nil | (apply q_move; exact rfl; exact rfl) | (apply q_assign; exact rfl; exact rfl) | (apply q_fieldAddr; exact rfl; exact rfl; exact (ty rfl); exact rfl; exact rfl; exact rfl; exact rfl) | (apply q_lss; exact rfl; exact rfl; exact rfl) | (apply q_ixl; exact rfl; exact rfl; exact rfl; exact (ty rfl); exact rfl; exact rfl; exact rfl; exact (by first | omega | (simp; done) | (simp; omega)); exact (by first | omega | (simp; done) | (simp; omega))) | (apply q_ld1p; exact rfl; exact rfl; exact (ty rfl); exact rfl; exact rfl; exact (by first | rfl | assumption | ((try simp only [Nat.zero_add]); refine List.getElem?_set_self ?_; (try simp only [List.length_set]); assumption)); exact rfl))
    | (show SQ _ _ _ _ _ _ _ _; (first | (apply q_callC; exact rfl; exact rfl; exact rfl; exact p4 0 _; (focus ((repeat (first | exact trivial | refine ⟨by first | exact rfl | assumption, ?_⟩)); done)); skip) | (apply q_callC; exact rfl; exact rfl; exact rfl; exact p5 0 _; (focus ((repeat (first | exact trivial | refine ⟨by first | exact rfl | assumption, ?_⟩)); done)); skip)); (try simp only [put, rowsOf, plR, List.all_cons, selE, ovr, setH, del, cellsA, splice, isV, List.nil_append, List.cons_append, List.map_cons, List.map_nil, List.length_cons, List.length_nil, List.set_cons_zero, List.set_cons_succ, List.take_succ_cons, List.take_zero, List.take_nil, List.drop_succ_cons, List.drop_zero, List.drop_nil, List.append_nil, List.all_cons, List.all_nil, Bool.and_true, Bool.true_and, Bool.and_false, Bool.false_and, Nat.reduceAdd, Nat.zero_add, Nat.add_zero, Nat.reduceEqDiff, if_true, if_false, reduceIte]))
    | (show AW _ _ _ _ _ _ _ _; first | refine aw_region ?_ | (refine aw_seqk ?_; intro K hK) | refine aw_block ?_ | (apply aw_cond_t; exact rfl; exact (by assumption)) | refine aw_skip ?_)
    | refine thn_n ?_
    | (refine hK _ _ _ ?_; clear hK K))); all_goals (repeat (clear hK K)))
              refine sq_sub (canon1 (O := [(0, _), (1, _), (2, _), (3, _), (4, _)]) (b1 := 5) (L1 := niT (aq)) ⟨rfl, rfl, rfl, rfl, rfl, trivial⟩ (by repeat (first | exact NstIn.here' | refine NstIn.cons (by omega) ?_ | refine NstIn.del (by omega) ?_))) ?_
              simp only [List.cons_append, List.nil_append]
              have hbr := nst_five (B0 := ⟨109, 3, false, [srR (pk (pk sq 2).2 3).2]⟩) (B1 := ⟨50, 2, false, [[.v (.slice none 0 0), .v (.slice none 0 0)]]⟩) (B2 := ⟨50, 2, false, [[.sl 3 0 i, .sl 4 0 i]]⟩) (B3 := ⟨23, 1, false, nbL dd⟩) (B4 := ⟨23, 1, false, outR 5 (List.replicate i i)⟩) (bs := niT (aq)) r _ (niT_at (by rw [g2.1]; omega))
              ((repeat' (first
    | (show SQ _ _ _ _ _ _ _ _; first | (apply q_ixl; exact rfl; exact rfl; exact rfl; exact (ty rfl); exact rfl; exact (by assumption); exact rfl; exact (by first | omega | (simp; done) | (simp; omega)); exact (by first | omega | (simp; done) | (simp; omega)))))); all_goals (repeat (clear hK K)))
              refine q_store rfl rfl (ty rfl) hbr hrr rfl rfl rfl ?_
              refine sq_sub (canon1 (O := [(0, _), (1, _), (2, _), (3, _), (4, _)]) (b1 := 5) (L1 := niT (wrA aq r q (pk (pk sq 2).2 3).1)) (subE_put ⟨rfl, rfl, rfl, rfl, rfl, trivial⟩ (by simp; omega)) (NstIn.put nst_five (by rw [g2.1]; omega) (by omega))) ?_
              simp only [List.cons_append, List.nil_append]
              have g3 := g2.wr c2 q (pk (pk sq 2).2 3).1
              have hor2 := out_at (b := 5) (n := i) (i := q) (by omega)
              have hrr2 := row_at (l := (wrA aq r q (pk (pk sq 2).2 3).1).getD q []) (i := r) (by rw [g3.row (by omega)]; omega)
              generalize wrA aq r q (pk (pk sq 2).2 3).1 = aq2 at *
              have hbr := nst_five (B0 := ⟨109, 3, false, [srR (pk (pk sq 2).2 3).2]⟩) (B1 := ⟨50, 2, false, [[.v (.slice none 0 0), .v (.slice none 0 0)]]⟩) (B2 := ⟨50, 2, false, [[.sl 3 0 i, .sl 4 0 i]]⟩) (B3 := ⟨23, 1, false, nbL dd⟩) (B4 := ⟨23, 1, false, outR 5 (List.replicate i i)⟩) (bs := niT (aq2)) q _ (niT_at (by rw [g3.1]; omega))
              ((repeat' (first
    | (show SQ _ _ _ _ _ _ _ _; first | apply sq_nil | (apply q_move; exact rfl; exact rfl) | (apply q_fieldAddr; exact rfl; exact rfl; exact (ty rfl); exact rfl; exact rfl; exact rfl; exact rfl) | (apply q_ixl; exact rfl; exact rfl; exact rfl; exact (ty rfl); exact rfl; exact rfl; exact rfl; exact (by first | omega | (simp; done) | (simp; omega)); exact (by first | omega | (simp; done) | (simp; omega))) | (apply q_ld1p; exact rfl; exact rfl; exact (ty rfl); exact rfl; exact rfl; exact (by first | rfl | assumption | ((try simp only [Nat.zero_add]); refine List.getElem?_set_self ?_; (try simp only [List.length_set]); assumption)); exact rfl) | (apply q_ixl; exact rfl; exact rfl; exact rfl; exact (ty rfl); exact rfl; exact (by assumption); exact rfl; exact (by first | omega | (simp; done) | (simp; omega)); exact (by first | omega | (simp; done) | (simp; omega))))
    | (show AW _ _ _ _ _ _ _ _; first | refine aw_region ?_)
    | refine thn_n ?_
    | (refine hK _ _ _ ?_; clear hK K))); all_goals (repeat (clear hK K)))
              refine q_store rfl rfl (ty rfl) hbr hrr2 rfl rfl rfl ?_
              refine sq_sub (canon1 (O := [(0, _), (1, _), (2, _), (3, _), (4, _)]) (b1 := 5) (L1 := niT (wrA aq2 q r (pk (pk sq 2).2 3).1)) (subE_put ⟨rfl, rfl, rfl, rfl, rfl, trivial⟩ (by simp; omega)) (NstIn.put nst_five (by rw [g3.1]; omega) (by omega))) ?_
              simp only [List.cons_append, List.nil_append]
              ((repeat' (first
    | (show SQ _ _ _ _ _ _ _ _; first | apply sq_nil | (apply q_move; exact rfl; exact rfl) | (apply q_assign; exact rfl; exact rfl) | (apply q_add; exact rfl; exact rfl; exact rfl))
    | (show AW _ _ _ _ _ _ _ _; first | refine aw_region ?_)
    | refine thn_n ?_
    | (refine hK _ _ _ ?_; clear hK K)
    | refine inb_n ?_)); all_goals (repeat (clear hK K)))
              refine ⟨q + 1, id, c3, by omega, ?_⟩
              (try dsimp only)
              rw [hRS, ← hw3]
              exact sub_five ⟨lk_i rfl rfl, lk_i rfl rfl, ⟨rfl, rfl⟩, lk_i rfl rfl, ⟨rfl, rfl⟩, ⟨rfl, rfl⟩, trivial⟩ (g3.wr (by omega) r _) hn2 (Nat.le_refl _) rfl rfl rfl (renB_nb _ _ _) rfl rfl rfl (nbL_ids _ _) ⟨rfl, rfl, rfl, rfl, rfl, trivial⟩ nst_five (fun i hi => ⟨rfl, by show i < 1000; omega⟩)
            · have c5 : ((pk sq 2).1 == 0) = false := by simpa using c4
              rw [if_neg c4] at hRS
              ((repeat' (first
    | (show SQ _ _ _ _ _ _ _ _; first | apply sq_nil | (apply q_move; exact rfl; exact rfl) | (apply q_assign; exact rfl; exact rfl) | (apply q_add; exact rfl; exact rfl; exact rfl) | (apply q_lss; exact rfl; exact rfl; exact rfl))
    | (show SQ _ _ _ _ _ _ _ _; (first | (apply q_callC; exact rfl; exact rfl; exact rfl; exact p4 0 _; (focus ((repeat (first | exact trivial | refine ⟨by first | exact rfl | assumption, ?_⟩)); done)); skip)); (try simp only [put, rowsOf, plR, List.all_cons, selE, ovr, setH, del, cellsA, splice, isV, List.nil_append, List.cons_append, List.map_cons, List.map_nil, List.length_cons, List.length_nil, List.set_cons_zero, List.set_cons_succ, List.take_succ_cons, List.take_zero, List.take_nil, List.drop_succ_cons, List.drop_zero, List.drop_nil, List.append_nil, List.all_cons, List.all_nil, Bool.and_true, Bool.true_and, Bool.and_false, Bool.false_and, Nat.reduceAdd, Nat.zero_add, Nat.add_zero, Nat.reduceEqDiff, if_true, if_false, reduceIte]))
    | (show AW _ _ _ _ _ _ _ _; first | refine aw_region ?_ | (refine aw_seqk ?_; intro K hK) | refine aw_block ?_ | (apply aw_cond_t; exact rfl; exact (by assumption)) | (apply aw_cond_f; exact rfl; exact (by assumption)) | refine aw_skip ?_)
    | refine thn_n ?_
    | (refine hK _ _ _ ?_; clear hK K)
    | refine inb_n ?_)); all_goals (repeat (clear hK K)))
              refine ⟨q + 1, id, c3, by omega, ?_⟩
              (try dsimp only)
              rw [hRS, ← hw3]
              exact sub_five ⟨lk_i rfl rfl, lk_i rfl rfl, ⟨rfl, rfl⟩, lk_i rfl rfl, ⟨rfl, rfl⟩, ⟨rfl, rfl⟩, trivial⟩ g2 hn2 (Nat.le_refl _) rfl rfl rfl (renB_nb _ _ _) rfl rfl rfl (nbL_ids _ _) ⟨rfl, rfl, rfl, rfl, rfl, trivial⟩ (by repeat (first | exact NstIn.here' | refine NstIn.cons (by omega) ?_ | refine NstIn.del (by omega) ?_)) (fun i hi => ⟨rfl, by show i < 1000; omega⟩)
          · have b3 : decide ((q : Int) < (r : Int)) = false := by simpa using c3
            obtain rfl : q = r := by omega
            ((repeat' (first
    | (show SQ _ _ _ _ _ _ _ _; first | apply sq_nil | (apply q_move; exact rfl; exact rfl) | (apply q_assign; exact rfl; exact rfl) | (apply q_add; exact rfl; exact rfl; exact rfl) | (apply q_lss; exact rfl; exact rfl; exact rfl))
    | (show AW _ _ _ _ _ _ _ _; first | refine aw_region ?_ | (refine aw_seqk ?_; intro K hK) | (apply aw_cond_f; exact rfl; exact (by assumption)) | refine aw_exit ?_)
    | refine thn_n ?_
    | (refine hK _ _ _ ?_; clear hK K)
    | refine thn_e ?_
    | refine inb_same ?_
    | refine inb_n ?_
    | (clear hK K; refine hK _ _ _ ?_; clear hK K))); all_goals (repeat (clear hK K)))
            refine ⟨q + 1, id, c2, by omega, ?_⟩
            (try dsimp only)
            rw [hFS, ← hwr]
            exact sub_five ⟨lk_i rfl rfl, ⟨rfl, rfl⟩, lk_i rfl rfl, ⟨rfl, rfl⟩, ⟨rfl, rfl⟩, trivial⟩ g2 hn2 (Nat.le_refl _) rfl rfl rfl (renB_nb _ _ _) rfl rfl rfl (nbL_ids _ _) ⟨rfl, rfl, rfl, rfl, rfl, trivial⟩ (by repeat (first | exact NstIn.here' | refine NstIn.cons (by omega) ?_ | refine NstIn.del (by omega) ?_)) (fun i hi => ⟨rfl, by show i < 1000; omega⟩)
      · have b2 : decide ((r : Int) < (i : Int)) = false := by simpa using c2
        obtain rfl : r = i := by omega
        generalize apF (s3, List.replicate r (List.replicate r 0)) r = Z at *
        obtain ⟨s4, A⟩ := Z
        dsimp only at k4 k5 ⊢
        have hAl := k5.1
        have hNl := niT_len A
        have p6 := fun id => pick_rc id s4 20 (k4.mono (by omega)) (by omega)
        have ok5 := pk_ok 20 k4
        unfold prE at hE
        dsimp only at hE
        generalize pk s4 20 = P at *
        obtain ⟨p, s5⟩ := P
        dsimp only at hE p6 ok5
        by_cases d0 : p = 0
        · have b4 : (p == 0) = true := by simpa using d0
          rw [if_pos d0] at hE
          simp only [Prod.mk.injEq] at hE
          obtain ⟨rfl, rfl, rfl⟩ := hE
          have hnl := nbL_len dd
          have hrow : (nbL dd)[0 + ((0 : Int)).toNat]? = some [.dsl 1 (dd[0].map inL)] := nbL_get (i := 0) (by omega)
          ((repeat' (first
    | (show SQ _ _ _ _ _ _ _ _; apply sq_frz (t := 88); exact rfl; exact rfl; exact (by first | rfl | exact all_noOwn_map (fun _ => rfl) | assumption | exact hclo); exact (by first | omega | (simp; done) | (simp; omega)); exact (by first | exact dt_full (by first | omega | (simp; done) | (simp; omega)) | assumption | rfl); (try simp only [put, rowsOf, plR, List.all_cons, selE, ovr, setH, del, cellsA, splice, isV, List.nil_append, List.cons_append, List.map_cons, List.map_nil, List.length_cons, List.length_nil, List.set_cons_zero, List.set_cons_succ, List.take_succ_cons, List.take_zero, List.take_nil, List.drop_succ_cons, List.drop_zero, List.drop_nil, List.append_nil, List.all_cons, List.all_nil, Bool.and_true, Bool.true_and, Bool.and_false, Bool.false_and, Nat.reduceAdd, Nat.zero_add, Nat.add_zero, Nat.reduceEqDiff, if_true, if_false, reduceIte]))
    | (show SQ _ _ _ _ _ _ _ _; first | apply sq_nil | (apply q_move; exact rfl; exact rfl) | (apply q_assign; exact rfl; exact rfl) | (apply q_fieldAddr; exact rfl; exact rfl; exact (ty rfl); exact rfl; exact rfl; exact rfl; exact rfl) | (apply q_eql; exact rfl; exact rfl; exact rfl) | (apply q_lss; exact rfl; exact rfl; exact rfl) | (apply q_ixl; exact rfl; exact rfl; exact rfl; exact (ty rfl); exact rfl; exact rfl; exact rfl; exact (by first | omega | (simp; done) | (simp; omega)); exact (by first | omega | (simp; done) | (simp; omega))) | (apply q_ld1p; exact rfl; exact rfl; exact (ty rfl); exact rfl; exact rfl; exact (by first | rfl | assumption | ((try simp only [Nat.zero_add]); refine List.getElem?_set_self ?_; (try simp only [List.length_set]); assumption)); exact rfl))
    | (show SQ _ _ _ _ _ _ _ _; (first | (apply q_build0; exact rfl; exact (ty rfl); exact rfl) | (apply q_callC; exact rfl; exact rfl; exact rfl; exact p6 0 _; (focus ((repeat (first | exact trivial | refine ⟨by first | exact rfl | assumption, ?_⟩)); done)); skip)); (try simp only [put, rowsOf, plR, List.all_cons, selE, ovr, setH, del, cellsA, splice, isV, List.nil_append, List.cons_append, List.map_cons, List.map_nil, List.length_cons, List.length_nil, List.set_cons_zero, List.set_cons_succ, List.take_succ_cons, List.take_zero, List.take_nil, List.drop_succ_cons, List.drop_zero, List.drop_nil, List.append_nil, List.all_cons, List.all_nil, Bool.and_true, Bool.true_and, Bool.and_false, Bool.false_and, Nat.reduceAdd, Nat.zero_add, Nat.add_zero, Nat.reduceEqDiff, if_true, if_false, reduceIte]))
    | (show AW _ _ _ _ _ _ _ _; first | refine aw_region ?_ | (refine aw_seqk ?_; intro K hK) | refine aw_block ?_ | (apply aw_cond_t; exact rfl; exact (by assumption)) | (apply aw_cond_f; exact rfl; exact (by assumption)) | refine aw_exit ?_)
    | refine thn_n ?_
    | (refine hK _ _ _ ?_; clear hK K)
    | refine thn_e ?_
    | refine inb_same ?_
    | (clear hK K; refine hK _ _ _ ?_; clear hK K))); all_goals (repeat (clear hK K)))
          refine q_store rfl rfl (ty rfl) rfl hrow rfl rfl rfl ?_
          have hset : (nbL dd).set 0 [.dsl 1 []] = nbL (dd.set 0 []) := by unfold nbL; rw [List.map_set]; rfl
          refine sq_sub (canon1 (O := [(0, _), (1, _), (2, ⟨50, 2, false, [[.sl 3 0 r, .sl 4 0 r]]⟩), (3, ⟨23, 1, false, nbL (dd.set 0 [])⟩), (4, _)]) (b1 := 5) (L1 := niT A) ⟨rfl, rfl, rfl, by rw [← hset]; rfl, rfl, trivial⟩ (by repeat (first | exact NstIn.here' | refine NstIn.cons (by omega) ?_ | refine NstIn.del (by omega) ?_))) ?_
          simp only [List.cons_append, List.nil_append]
          have k6 : (dd.set 0 []).length = r := by rw [List.length_set]; exact k2
          ((repeat' (first
    | (show SQ _ _ _ _ _ _ _ _; first | apply sq_nil)
    | (show SQ _ _ _ _ _ _ _ _; (first | (apply q_ldap; exact rfl; exact rfl; exact (ty rfl); exact rfl; exact rfl; exact (by first | rfl | assumption | ((try simp only [Nat.zero_add]); refine List.getElem?_set_self ?_; (try simp only [List.length_set]); assumption)); exact rfl)); (try simp only [put, rowsOf, plR, List.all_cons, selE, ovr, setH, del, cellsA, splice, isV, List.nil_append, List.cons_append, List.map_cons, List.map_nil, List.length_cons, List.length_nil, List.set_cons_zero, List.set_cons_succ, List.take_succ_cons, List.take_zero, List.take_nil, List.drop_succ_cons, List.drop_zero, List.drop_nil, List.append_nil, List.all_cons, List.all_nil, Bool.and_true, Bool.true_and, Bool.and_false, Bool.false_and, Nat.reduceAdd, Nat.zero_add, Nat.add_zero, Nat.reduceEqDiff, if_true, if_false, reduceIte]))
    | (show AW _ _ _ _ _ _ _ _; first | refine aw_region ?_ | (refine aw_seqk ?_; intro K hK))
    | refine thn_n ?_
    | (refine hK _ _ _ ?_; clear hK K)
    | refine inb_n ?_)); all_goals (repeat (clear hK K)))
          have hnlz := nbL_len (dd.set 0 [])
          have hnoz := nbL_no (dd.set 0 [])
          refine sq_frzNA 111 (.sl 3 0 r) [(0, _), (1, _), (3, _)] (ls := A) (by rfl) (by unfold niB; rw [k5.lens]; rfl) (by repeat (first | exact NstIn.here' | refine NstIn.cons (by omega) ?_ | refine NstIn.del (by omega) ?_)) k5.1.symm ⟨rfl, rfl, rfl, trivial⟩ (by simp) ?_
          ((repeat' (first
    | (show SQ _ _ _ _ _ _ _ _; apply sq_frza (t := 111) 0; exact rfl; exact rfl; exact rfl; exact (by first | rfl | exact all_noOwn_map (fun _ => rfl) | assumption | exact hclo); exact (by first | omega | (simp; done) | (simp; omega)); exact (by first | exact dt_full (by first | omega | (simp; done) | (simp; omega)) | assumption | rfl); (try simp only [put, rowsOf, plR, List.all_cons, selE, ovr, setH, del, cellsA, splice, isV, List.nil_append, List.cons_append, List.map_cons, List.map_nil, List.length_cons, List.length_nil, List.set_cons_zero, List.set_cons_succ, List.take_succ_cons, List.take_zero, List.take_nil, List.drop_succ_cons, List.drop_zero, List.drop_nil, List.append_nil, List.all_cons, List.all_nil, Bool.and_true, Bool.true_and, Bool.and_false, Bool.false_and, Nat.reduceAdd, Nat.zero_add, Nat.add_zero, Nat.reduceEqDiff, if_true, if_false, reduceIte]))
    | (show SQ _ _ _ _ _ _ _ _; first | apply sq_nil)
    | (show SQ _ _ _ _ _ _ _ _; (first | (apply q_store; exact rfl; exact rfl; exact (ty rfl); exact rfl; exact (by first | rfl | assumption | ((try simp only [Nat.zero_add]); refine List.getElem?_set_self ?_; (try simp only [List.length_set]); assumption)); exact rfl; exact rfl; exact rfl)); (try simp only [put, rowsOf, plR, List.all_cons, selE, ovr, setH, del, cellsA, splice, isV, List.nil_append, List.cons_append, List.map_cons, List.map_nil, List.length_cons, List.length_nil, List.set_cons_zero, List.set_cons_succ, List.take_succ_cons, List.take_zero, List.take_nil, List.drop_succ_cons, List.drop_zero, List.drop_nil, List.append_nil, List.all_cons, List.all_nil, Bool.and_true, Bool.true_and, Bool.and_false, Bool.false_and, Nat.reduceAdd, Nat.zero_add, Nat.add_zero, Nat.reduceEqDiff, if_true, if_false, reduceIte]))
    | (show AW _ _ _ _ _ _ _ _; first | refine aw_ret ?_)
    | refine thn_n ?_
    | (refine hK _ _ _ ?_; clear hK K))); all_goals (repeat (clear hK K)))
          exact finc id (.r1 _ _ (.agg _ _ _ _ _ rfl (.inr ⟨_, _, _, _, _, rfl, rfl, rfl, rfl⟩) (ty rfl) rfl (Nat.le_of_ble_eq_true rfl))) rfl (fun _ _ => rfl) ⟨rfl, trivial⟩ rfl
        · have b4 : (p == 0) = false := by simpa using d0
          rw [if_neg d0] at hE
          by_cases d1 : p = 1
          · have b5 : (p == 1) = true := by simpa using d1
            rw [if_pos d1] at hE
            simp only [Prod.mk.injEq] at hE
            obtain ⟨rfl, rfl, rfl⟩ := hE
            have hor : (outR 5 (List.replicate r r))[0 + ((0 : Int)).toNat]? = some [.sl 5 0 r] := out_at (i := 0) (by omega)
            have hrr : ((A.getD 0 []).map inL)[0 + ((0 : Int)).toNat]? = some [.v (.int .i64 ((A.getD 0 []).getD 0 0))] := row_at (i := 0) (by rw [k5.row (by omega)]; omega)
            ((repeat' (first
    | (show SQ _ _ _ _ _ _ _ _; first | apply sq_nil | (apply q_move; exact rfl; exact rfl) | (apply q_assign; exact rfl; exact rfl) | (apply q_fieldAddr; exact rfl; exact rfl; exact (ty rfl); exact rfl; exact rfl; exact rfl; exact rfl) | (apply q_eql; exact rfl; exact rfl; exact rfl) | (apply q_lss; exact rfl; exact rfl; exact rfl) | (apply q_ixl; exact rfl; exact rfl; exact rfl; exact (ty rfl); exact rfl; exact rfl; exact rfl; exact (by first | omega | (simp; done) | (simp; omega)); exact (by first | omega | (simp; done) | (simp; omega))) | (apply q_ld1p; exact rfl; exact rfl; exact (ty rfl); exact rfl; exact rfl; exact (by first | rfl | assumption | ((try simp only [Nat.zero_add]); refine List.getElem?_set_self ?_; (try simp only [List.length_set]); assumption)); exact rfl))
    | (show SQ _ _ _ _ _ _ _ _; (first | (apply q_callC; exact rfl; exact rfl; exact rfl; exact p6 0 _; (focus ((repeat (first | exact trivial | refine ⟨by first | exact rfl | assumption, ?_⟩)); done)); skip)); (try simp only [put, rowsOf, plR, List.all_cons, selE, ovr, setH, del, cellsA, splice, isV, List.nil_append, List.cons_append, List.map_cons, List.map_nil, List.length_cons, List.length_nil, List.set_cons_zero, List.set_cons_succ, List.take_succ_cons, List.take_zero, List.take_nil, List.drop_succ_cons, List.drop_zero, List.drop_nil, List.append_nil, List.all_cons, List.all_nil, Bool.and_true, Bool.true_and, Bool.and_false, Bool.false_and, Nat.reduceAdd, Nat.zero_add, Nat.add_zero, Nat.reduceEqDiff, if_true, if_false, reduceIte]))
    | (show AW _ _ _ _ _ _ _ _; first | refine aw_region ?_ | (refine aw_seqk ?_; intro K hK) | refine aw_block ?_ | (apply aw_cond_t; exact rfl; exact (by assumption)) | (apply aw_cond_f; exact rfl; exact (by assumption)) | refine aw_exit ?_)
    | refine thn_n ?_
    | (refine hK _ _ _ ?_; clear hK K)
    | refine thn_e ?_
    | refine inb_same ?_
    | (clear hK K; refine hK _ _ _ ?_; clear hK K))); all_goals (repeat (clear hK K)))
            refine sq_sub (canon1 (O := [(0, _), (1, _), (2, _), (3, _), (4, _)]) (b1 := 5) (L1 := niT (A)) ⟨rfl, rfl, rfl, rfl, rfl, trivial⟩ (by repeat (first | exact NstIn.here' | refine NstIn.cons (by omega) ?_ | refine NstIn.del (by omega) ?_))) ?_
            simp only [List.cons_append, List.nil_append]
            have hbr : _ := nst_five (B0 := ⟨109, 3, false, [srR s5]⟩) (B1 := ⟨50, 2, false, [[.v (.slice none 0 0), .v (.slice none 0 0)]]⟩) (B2 := ⟨50, 2, false, [[.sl 3 0 r, .sl 4 0 r]]⟩) (B3 := ⟨23, 1, false, nbL dd⟩) (B4 := ⟨23, 1, false, outR 5 (List.replicate r r)⟩) (bs := niT (A)) 0 _ (niT_at (by omega))
            ((repeat' (first
    | (show SQ _ _ _ _ _ _ _ _; first | (apply q_ixl; exact rfl; exact rfl; exact rfl; exact (ty rfl); exact rfl; exact (by assumption); exact rfl; exact (by first | omega | (simp; done) | (simp; omega)); exact (by first | omega | (simp; done) | (simp; omega)))))); all_goals (repeat (clear hK K)))
            refine q_store rfl rfl (ty rfl) hbr hrr rfl rfl rfl ?_
            have g5 := k5.wr (i := 0) (by omega) 0 1
            have hAl2 := g5.1
            have hNl2 := niT_len (wrA A 0 0 1)
            refine sq_sub (canon1 (O := [(0, _), (1, _), (2, _), (3, _), (4, _)]) (b1 := 5) (L1 := niT (wrA A 0 0 1)) (subE_put ⟨rfl, rfl, rfl, rfl, rfl, trivial⟩ (by simp)) (NstIn.put (i := 0) nst_five (by omega) rfl)) ?_
            simp only [List.cons_append, List.nil_append]
            ((repeat' (first
    | (show SQ _ _ _ _ _ _ _ _; first | apply sq_nil)
    | (show SQ _ _ _ _ _ _ _ _; (first | (apply q_ldap; exact rfl; exact rfl; exact (ty rfl); exact rfl; exact rfl; exact (by first | rfl | assumption | ((try simp only [Nat.zero_add]); refine List.getElem?_set_self ?_; (try simp only [List.length_set]); assumption)); exact rfl)); (try simp only [put, rowsOf, plR, List.all_cons, selE, ovr, setH, del, cellsA, splice, isV, List.nil_append, List.cons_append, List.map_cons, List.map_nil, List.length_cons, List.length_nil, List.set_cons_zero, List.set_cons_succ, List.take_succ_cons, List.take_zero, List.take_nil, List.drop_succ_cons, List.drop_zero, List.drop_nil, List.append_nil, List.all_cons, List.all_nil, Bool.and_true, Bool.true_and, Bool.and_false, Bool.false_and, Nat.reduceAdd, Nat.zero_add, Nat.add_zero, Nat.reduceEqDiff, if_true, if_false, reduceIte]))
    | (show AW _ _ _ _ _ _ _ _; first | refine aw_region ?_ | (refine aw_seqk ?_; intro K hK))
    | refine thn_n ?_
    | (refine hK _ _ _ ?_; clear hK K)
    | refine inb_n ?_)); all_goals (repeat (clear hK K)))
            have hnlz := nbL_len (dd)
            have hnoz := nbL_no (dd)
            refine sq_frzNA 111 (.sl 3 0 r) [(0, _), (1, _), (3, _)] (ls := wrA A 0 0 1) (by rfl) (by unfold niB; rw [(g5).lens]; rfl) (by repeat (first | exact NstIn.here' | refine NstIn.cons (by omega) ?_ | refine NstIn.del (by omega) ?_)) (g5).1.symm ⟨rfl, rfl, rfl, trivial⟩ (by simp) ?_
            ((repeat' (first
    | (show SQ _ _ _ _ _ _ _ _; apply sq_frza (t := 111) 0; exact rfl; exact rfl; exact rfl; exact (by first | rfl | exact all_noOwn_map (fun _ => rfl) | assumption | exact hclo); exact (by first | omega | (simp; done) | (simp; omega)); exact (by first | exact dt_full (by first | omega | (simp; done) | (simp; omega)) | assumption | rfl); (try simp only [put, rowsOf, plR, List.all_cons, selE, ovr, setH, del, cellsA, splice, isV, List.nil_append, List.cons_append, List.map_cons, List.map_nil, List.length_cons, List.length_nil, List.set_cons_zero, List.set_cons_succ, List.take_succ_cons, List.take_zero, List.take_nil, List.drop_succ_cons, List.drop_zero, List.drop_nil, List.append_nil, List.all_cons, List.all_nil, Bool.and_true, Bool.true_and, Bool.and_false, Bool.false_and, Nat.reduceAdd, Nat.zero_add, Nat.add_zero, Nat.reduceEqDiff, if_true, if_false, reduceIte]))
    | (show SQ _ _ _ _ _ _ _ _; first | apply sq_nil)
    | (show SQ _ _ _ _ _ _ _ _; (first | (apply q_store; exact rfl; exact rfl; exact (ty rfl); exact rfl; exact (by first | rfl | assumption | ((try simp only [Nat.zero_add]); refine List.getElem?_set_self ?_; (try simp only [List.length_set]); assumption)); exact rfl; exact rfl; exact rfl)); (try simp only [put, rowsOf, plR, List.all_cons, selE, ovr, setH, del, cellsA, splice, isV, List.nil_append, List.cons_append, List.map_cons, List.map_nil, List.length_cons, List.length_nil, List.set_cons_zero, List.set_cons_succ, List.take_succ_cons, List.take_zero, List.take_nil, List.drop_succ_cons, List.drop_zero, List.drop_nil, List.append_nil, List.all_cons, List.all_nil, Bool.and_true, Bool.true_and, Bool.and_false, Bool.false_and, Nat.reduceAdd, Nat.zero_add, Nat.add_zero, Nat.reduceEqDiff, if_true, if_false, reduceIte]))
    | (show AW _ _ _ _ _ _ _ _; first | refine aw_ret ?_)
    | refine thn_n ?_
    | (refine hK _ _ _ ?_; clear hK K))); all_goals (repeat (clear hK K)))
            exact finc id (.r1 _ _ (.agg _ _ _ _ _ rfl (.inr ⟨_, _, _, _, _, rfl, rfl, rfl, rfl⟩) (ty rfl) rfl (Nat.le_of_ble_eq_true rfl))) rfl (fun _ _ => rfl) ⟨rfl, trivial⟩ rfl
          · have b5 : (p == 1) = false := by simpa using d1
            rw [if_neg d1] at hE
            by_cases d2 : p = 2
            · have b6 : (p == 2) = true := by simpa using d2
              rw [if_pos d2] at hE
              have p7 := fun id => pick_rc id s5 r (ok5.mono (by omega)) (by omega)
              have hb7 := pk_bd s5 r (by omega)
              have ok7 := pk_ok r ok5
              generalize pk s5 (r : Int) = P at *
              obtain ⟨v0, s6⟩ := P
              dsimp only at hE p7 hb7 ok7
              obtain ⟨v, rfl⟩ : ∃ v : Nat, v0 = (v : Int) := ⟨v0.toNat, by omega⟩
              rw [Int.toNat_natCast] at hE
              have a8 := among_rc 0 1000 s6 [-1, 101, 3] (by decide) (ok7.mono (by omega)) (by simp) (by simp)
              have ok8 := am_ok [-1, 101, 3] ok7
              generalize am [-1, 101, 3] s6 = P at *
              obtain ⟨x, s7⟩ := P
              dsimp only at hE a8 ok8
              simp only [nuR, List.map_cons, List.map_nil, List.length_cons, List.length_nil] at a8
              simp only [Prod.mk.injEq] at hE
              obtain ⟨rfl, rfl, rfl⟩ := hE
              have hor := out_at (b := 5) (n := r) (i := v) (by omega)
              have hrr : ((A.getD v []).map inL)[0 + ((0 : Int)).toNat]? = some [.v (.int .i64 ((A.getD v []).getD 0 0))] := row_at (i := 0) (by rw [k5.row (by omega)]; omega)
              have hrl : ((A.getD v []).map inL).length = r := by rw [List.length_map, k5.row (by omega)]
              ((repeat' (first
    | (show SQ _ _ _ _ _ _ _ _; first | apply sq_nil | (apply q_move; exact rfl; exact rfl) | (apply q_assign; exact rfl; exact rfl) | (apply q_eql; exact rfl; exact rfl; exact rfl) | (apply q_lss; exact rfl; exact rfl; exact rfl))
    | (show SQ _ _ _ _ _ _ _ _; (first | (apply q_callC; exact rfl; exact rfl; exact rfl; exact p6 0 _; (focus ((repeat (first | exact trivial | refine ⟨by first | exact rfl | assumption, ?_⟩)); done)); skip) | (apply q_callC; exact rfl; exact rfl; exact rfl; exact p7 0 _; (focus ((repeat (first | exact trivial | refine ⟨by first | exact rfl | assumption, ?_⟩)); done)); skip)); (try simp only [put, rowsOf, plR, List.all_cons, selE, ovr, setH, del, cellsA, splice, isV, List.nil_append, List.cons_append, List.map_cons, List.map_nil, List.length_cons, List.length_nil, List.set_cons_zero, List.set_cons_succ, List.take_succ_cons, List.take_zero, List.take_nil, List.drop_succ_cons, List.drop_zero, List.drop_nil, List.append_nil, List.all_cons, List.all_nil, Bool.and_true, Bool.true_and, Bool.and_false, Bool.false_and, Nat.reduceAdd, Nat.zero_add, Nat.add_zero, Nat.reduceEqDiff, if_true, if_false, reduceIte]))
    | (show AW _ _ _ _ _ _ _ _; first | refine aw_region ?_ | (refine aw_seqk ?_; intro K hK) | refine aw_block ?_ | (apply aw_cond_t; exact rfl; exact (by assumption)) | (apply aw_cond_f; exact rfl; exact (by assumption)) | refine aw_exit ?_)
    | refine thn_n ?_
    | (refine hK _ _ _ ?_; clear hK K)
    | refine thn_e ?_
    | refine inb_same ?_
    | (clear hK K; refine hK _ _ _ ?_; clear hK K))); all_goals (repeat (clear hK K)))
              
              ((repeat' (first
    | (show DE _ _ _ _ _ _ _ _ _ _ _ _; first | (apply e_rdi; exact rfl; exact rfl; exact rfl; exact (ty rfl); exact rfl; exact rfl; exact rfl; exact (by first | omega | (simp; done) | (simp; omega)); exact (by first | omega | (simp; done) | (simp; omega)); exact rfl; exact rfl) | (apply e_move; exact rfl; exact rfl; exact rfl) | (apply e_fieldAddr; exact rfl; exact rfl; exact (ty rfl); exact rfl; exact rfl; exact rfl; exact rfl; exact rfl))
    | (show DE _ _ _ _ _ _ _ _ _ _ _ _; (first | (apply e_rd1; exact rfl; exact rfl; exact (ty rfl); exact rfl; exact rfl; exact (by first | rfl | assumption | ((try simp only [Nat.zero_add]); refine List.getElem?_set_self ?_; (try simp only [List.length_set]); assumption)); exact rfl; exact rfl; exact rfl) | (apply e_buildn; exact rfl; exact (ty rfl); exact rfl; exact rfl; exact rfl; exact rfl; exact rfl; exact rfl; exact rfl; exact rfl) | (apply e_callC; exact rfl; exact rfl; exact rfl; exact a8 _; (focus ((repeat (first | exact trivial | refine ⟨by first | exact rfl | assumption, ?_⟩)); done)); exact rfl; skip)); (try simp only [put, rowsOf, plR, List.all_cons, selE, ovr, setH, del, cellsA, splice, isV, List.nil_append, List.cons_append, List.map_cons, List.map_nil, List.length_cons, List.length_nil, List.set_cons_zero, List.set_cons_succ, List.take_succ_cons, List.take_zero, List.take_nil, List.drop_succ_cons, List.drop_zero, List.drop_nil, List.append_nil, List.all_cons, List.all_nil, Bool.and_true, Bool.true_and, Bool.and_false, Bool.false_and, Nat.reduceAdd, Nat.zero_add, Nat.add_zero, Nat.reduceEqDiff, if_true, if_false, reduceIte]))
    | (show AW _ _ _ _ _ _ _ _; first | refine aw_drawE (id := 32) [0, 1, 0, 7, 15, 0, 0, 96, 255, 511] [0, 0, 0, 0, 0, 0, 1, 2, 1, 2, 1, 2, 3, 4, 4, 4] mixed (by kernel_rfl) ?_))); all_goals (repeat (clear hK K)))
              refine e_ixl rfl rfl rfl (ty rfl) rfl ((selE_far _ (by simp only [List.forall_mem_cons]; refine ⟨⟨by omega, by omega, by simp⟩, ⟨by omega, by simp⟩, by simp⟩)).trans (((by repeat (first | exact NstIn.here' | refine NstIn.cons (by omega) ?_ | refine NstIn.del (by omega) ?_)) : NstIn _ 5 (niT A)) v _ (niT_at (by omega)))) rfl (by omega) (by omega) rfl ?_
              refine e_store rfl rfl (ty rfl) ((selE_far _ (by simp only [List.forall_mem_cons]; refine ⟨⟨by omega, by omega, by simp⟩, ⟨by omega, by simp⟩, by simp⟩)).trans (((by repeat (first | exact NstIn.here' | refine NstIn.cons (by omega) ?_ | refine NstIn.del (by omega) ?_)) : NstIn _ 5 (niT A)) v _ (niT_at (by omega)))) hrr rfl rfl rfl rfl ?_
              refine dr_nil (show effR _ _ _ _ [(1, 2), (3, 4), (4, 4)] from ⟨effQ_far (by simp only [List.forall_mem_cons]; refine ⟨⟨by omega, by simp⟩, ⟨by omega, by omega, by simp⟩, ⟨by omega, by simp⟩, by simp⟩), effQ_far (by simp only [List.forall_mem_cons]; refine ⟨⟨by omega, by simp⟩, ⟨by omega, by omega, by simp⟩, ⟨by omega, by simp⟩, by simp⟩), effQ_far (by simp only [List.forall_mem_cons]; refine ⟨⟨by omega, by simp⟩, ⟨by omega, by omega, by simp⟩, ⟨by omega, by simp⟩, by simp⟩), trivial⟩) ?_
              refine inb_n ?_
              refine thn_n ?_
              (refine hK _ _ _ ?_; clear hK K)
              simp only [selE, ovr]
              have g5 := k5.wr (i := v) (by omega) 0 x
              have hAl2 := g5.1
              have hNl2 := niT_len (wrA A v 0 x)
              refine aw_sub (canon1 (O := [(0, _), (1, _), (2, _), (3, _), (4, _)]) (b1 := 5) (L1 := niT (wrA A v 0 x)) (subE_put ⟨rfl, rfl, rfl, rfl, rfl, trivial⟩ (by simp; omega)) (NstIn.put (by repeat (first | exact NstIn.here' | refine NstIn.cons (by omega) ?_ | refine NstIn.del (by omega) ?_)) (by omega) rfl)) ?_
              simp only [List.cons_append, List.nil_append]
              ((repeat' (first
    | (show SQ _ _ _ _ _ _ _ _; (first | (apply q_ldap; exact rfl; exact rfl; exact (ty rfl); exact rfl; exact rfl; exact (by first | rfl | assumption | ((try simp only [Nat.zero_add]); refine List.getElem?_set_self ?_; (try simp only [List.length_set]); assumption)); exact rfl)); (try simp only [put, rowsOf, plR, List.all_cons, selE, ovr, setH, del, cellsA, splice, isV, List.nil_append, List.cons_append, List.map_cons, List.map_nil, List.length_cons, List.length_nil, List.set_cons_zero, List.set_cons_succ, List.take_succ_cons, List.take_zero, List.take_nil, List.drop_succ_cons, List.drop_zero, List.drop_nil, List.append_nil, List.all_cons, List.all_nil, Bool.and_true, Bool.true_and, Bool.and_false, Bool.false_and, Nat.reduceAdd, Nat.zero_add, Nat.add_zero, Nat.reduceEqDiff, if_true, if_false, reduceIte]))
    | (show AW _ _ _ _ _ _ _ _; first | refine aw_region ?_ | (refine aw_seqk ?_; intro K hK)))); all_goals (repeat (clear hK K)))
              have hnlz := nbL_len (dd)
              have hnoz := nbL_no (dd)
              refine sq_frzNA 111 (.sl 3 0 r) [(0, _), (1, _), (3, _)] (ls := wrA A v 0 x) (by rfl) (by unfold niB; rw [(g5).lens]; rfl) (by repeat (first | exact NstIn.here' | refine NstIn.cons (by omega) ?_ | refine NstIn.del (by omega) ?_)) (g5).1.symm ⟨rfl, rfl, rfl, trivial⟩ (by simp) ?_
              ((repeat' (first
    | (show SQ _ _ _ _ _ _ _ _; apply sq_frza (t := 111) 0; exact rfl; exact rfl; exact rfl; exact (by first | rfl | exact all_noOwn_map (fun _ => rfl) | assumption | exact hclo); exact (by first | omega | (simp; done) | (simp; omega)); exact (by first | exact dt_full (by first | omega | (simp; done) | (simp; omega)) | assumption | rfl); (try simp only [put, rowsOf, plR, List.all_cons, selE, ovr, setH, del, cellsA, splice, isV, List.nil_append, List.cons_append, List.map_cons, List.map_nil, List.length_cons, List.length_nil, List.set_cons_zero, List.set_cons_succ, List.take_succ_cons, List.take_zero, List.take_nil, List.drop_succ_cons, List.drop_zero, List.drop_nil, List.append_nil, List.all_cons, List.all_nil, Bool.and_true, Bool.true_and, Bool.and_false, Bool.false_and, Nat.reduceAdd, Nat.zero_add, Nat.add_zero, Nat.reduceEqDiff, if_true, if_false, reduceIte]))
    | (show SQ _ _ _ _ _ _ _ _; first | apply sq_nil)
    | (show SQ _ _ _ _ _ _ _ _; (first | (apply q_store; exact rfl; exact rfl; exact (ty rfl); exact rfl; exact (by first | rfl | assumption | ((try simp only [Nat.zero_add]); refine List.getElem?_set_self ?_; (try simp only [List.length_set]); assumption)); exact rfl; exact rfl; exact rfl)); (try simp only [put, rowsOf, plR, List.all_cons, selE, ovr, setH, del, cellsA, splice, isV, List.nil_append, List.cons_append, List.map_cons, List.map_nil, List.length_cons, List.length_nil, List.set_cons_zero, List.set_cons_succ, List.take_succ_cons, List.take_zero, List.take_nil, List.drop_succ_cons, List.drop_zero, List.drop_nil, List.append_nil, List.all_cons, List.all_nil, Bool.and_true, Bool.true_and, Bool.and_false, Bool.false_and, Nat.reduceAdd, Nat.zero_add, Nat.add_zero, Nat.reduceEqDiff, if_true, if_false, reduceIte]))
    | (show AW _ _ _ _ _ _ _ _; first | refine aw_ret ?_)
    | refine thn_n ?_
    | (refine hK _ _ _ ?_; clear hK K))); all_goals (repeat (clear hK K)))
              exact finc id (.r1 _ _ (.agg _ _ _ _ _ rfl (.inr ⟨_, _, _, _, _, rfl, rfl, rfl, rfl⟩) (ty rfl) rfl (Nat.le_of_ble_eq_true rfl))) rfl (fun _ _ => rfl) ⟨rfl, trivial⟩ rfl
            · have b6 : (p == 2) = false := by simpa using d2
              rw [if_neg d2] at hE
              simp only [Prod.mk.injEq] at hE
              obtain ⟨rfl, rfl, rfl⟩ := hE
              ((repeat' (first
    | (show SQ _ _ _ _ _ _ _ _; first | apply sq_nil | (apply q_move; exact rfl; exact rfl) | (apply q_assign; exact rfl; exact rfl) | (apply q_eql; exact rfl; exact rfl; exact rfl) | (apply q_lss; exact rfl; exact rfl; exact rfl))
    | (show SQ _ _ _ _ _ _ _ _; (first | (apply q_ldap; exact rfl; exact rfl; exact (ty rfl); exact rfl; exact rfl; exact (by first | rfl | assumption | ((try simp only [Nat.zero_add]); refine List.getElem?_set_self ?_; (try simp only [List.length_set]); assumption)); exact rfl) | (apply q_callC; exact rfl; exact rfl; exact rfl; exact p6 0 _; (focus ((repeat (first | exact trivial | refine ⟨by first | exact rfl | assumption, ?_⟩)); done)); skip)); (try simp only [put, rowsOf, plR, List.all_cons, selE, ovr, setH, del, cellsA, splice, isV, List.nil_append, List.cons_append, List.map_cons, List.map_nil, List.length_cons, List.length_nil, List.set_cons_zero, List.set_cons_succ, List.take_succ_cons, List.take_zero, List.take_nil, List.drop_succ_cons, List.drop_zero, List.drop_nil, List.append_nil, List.all_cons, List.all_nil, Bool.and_true, Bool.true_and, Bool.and_false, Bool.false_and, Nat.reduceAdd, Nat.zero_add, Nat.add_zero, Nat.reduceEqDiff, if_true, if_false, reduceIte]))
    | (show AW _ _ _ _ _ _ _ _; first | refine aw_region ?_ | (refine aw_seqk ?_; intro K hK) | refine aw_block ?_ | (apply aw_cond_f; exact rfl; exact (by assumption)) | refine aw_exit ?_ | refine aw_skip ?_)
    | refine thn_n ?_
    | (refine hK _ _ _ ?_; clear hK K)
    | refine thn_e ?_
    | refine inb_same ?_
    | refine inb_n ?_
    | (clear hK K; refine hK _ _ _ ?_; clear hK K))); all_goals (repeat (clear hK K)))
              have hnlz := nbL_len (dd)
              have hnoz := nbL_no (dd)
              refine sq_frzNA 111 (.sl 3 0 r) [(0, _), (1, _), (3, _)] (ls := A) (by rfl) (by unfold niB; rw [k5.lens]; rfl) (by repeat (first | exact NstIn.here' | refine NstIn.cons (by omega) ?_ | refine NstIn.del (by omega) ?_)) k5.1.symm ⟨rfl, rfl, rfl, trivial⟩ (by simp) ?_
              ((repeat' (first
    | (show SQ _ _ _ _ _ _ _ _; apply sq_frza (t := 111) 0; exact rfl; exact rfl; exact rfl; exact (by first | rfl | exact all_noOwn_map (fun _ => rfl) | assumption | exact hclo); exact (by first | omega | (simp; done) | (simp; omega)); exact (by first | exact dt_full (by first | omega | (simp; done) | (simp; omega)) | assumption | rfl); (try simp only [put, rowsOf, plR, List.all_cons, selE, ovr, setH, del, cellsA, splice, isV, List.nil_append, List.cons_append, List.map_cons, List.map_nil, List.length_cons, List.length_nil, List.set_cons_zero, List.set_cons_succ, List.take_succ_cons, List.take_zero, List.take_nil, List.drop_succ_cons, List.drop_zero, List.drop_nil, List.append_nil, List.all_cons, List.all_nil, Bool.and_true, Bool.true_and, Bool.and_false, Bool.false_and, Nat.reduceAdd, Nat.zero_add, Nat.add_zero, Nat.reduceEqDiff, if_true, if_false, reduceIte]))
    | (show SQ _ _ _ _ _ _ _ _; first | apply sq_nil)
    | (show SQ _ _ _ _ _ _ _ _; (first | (apply q_store; exact rfl; exact rfl; exact (ty rfl); exact rfl; exact (by first | rfl | assumption | ((try simp only [Nat.zero_add]); refine List.getElem?_set_self ?_; (try simp only [List.length_set]); assumption)); exact rfl; exact rfl; exact rfl)); (try simp only [put, rowsOf, plR, List.all_cons, selE, ovr, setH, del, cellsA, splice, isV, List.nil_append, List.cons_append, List.map_cons, List.map_nil, List.length_cons, List.length_nil, List.set_cons_zero, List.set_cons_succ, List.take_succ_cons, List.take_zero, List.take_nil, List.drop_succ_cons, List.drop_zero, List.drop_nil, List.append_nil, List.all_cons, List.all_nil, Bool.and_true, Bool.true_and, Bool.and_false, Bool.false_and, Nat.reduceAdd, Nat.zero_add, Nat.add_zero, Nat.reduceEqDiff, if_true, if_false, reduceIte]))
    | (show AW _ _ _ _ _ _ _ _; first | refine aw_ret ?_)
    | refine thn_n ?_
    | (refine hK _ _ _ ?_; clear hK K))); all_goals (repeat (clear hK K)))
              exact finc id (.r1 _ _ (.agg _ _ _ _ _ rfl (.inr ⟨_, _, _, _, _, rfl, rfl, rfl, rfl⟩) (ty rfl) rfl (Nat.le_of_ble_eq_true rfl))) rfl (fun _ _ => rfl) ⟨rfl, trivial⟩ rfl
end Go.Proofs.Yteknfaldpajlpaa.Nb

namespace Go.Proofs.Yteknfaldpajlpaa.Nb
open Go Go.RowKit Go.Proofs.Yteknfaldpajlpaa.Aw Go.Proofs.Yteknfaldpajlpaa.In Go.Proofs.Yteknfaldpajlpaa.Il Go.Proofs.Yteknfaldpajlpaa.Sr
set_option linter.unusedSimpArgs false
set_option linter.unusedVariables false
set_option linter.unusedSectionVars false
attribute [local irreducible] AW SQ Step RO RC DE Thn InB
set_option maxRecDepth 100000 in
set_option maxHeartbeats 4000000 in
theorem prob2_rc {s : Sr} {k : Int} (h : s.ok k) (hk : k ≤ 1000) (ds ap : List (List Int)) (s' : Sr) (j bi : Nat) (n : Nat) (hn1 : 1 ≤ n) (hn2 : n ≤ 25) (hN : (((pk (pk s 6).2 12).1) == 0) = true) (hnv : (am [12, 24, 25] (pk (pk s 6).2 12).2).1 = (n : Int)) (hE : prE n (domsF (am [12, 24, 25] (pk (pk s 6).2 12).2).2 n).2 (apF ((domsF (am [12, 24, 25] (pk (pk s 6).2 12).2).2 n).1, List.replicate n (List.replicate n 0)) n) = (s', ds, ap)) : RC Try.prog 71 [.ptr bi 0 0] [(bi, ⟨109, 3, false, [srR s]⟩)] j (.agg [.dsl 1 (nbL ds), .dsl 1 (nbL ap)]) [(bi, some ⟨109, 3, false, [srR s']⟩)] j := by
  have h1 := fun id => pick_rc id s 6 (h.mono (by omega)) (by omega)
  have h2 := fun id => one_rc id (pk s 6).2 12 ((pk_ok 6 h).mono (by omega)) (by omega)
  have ok2 := am_ok [12, 24, 25] (pk_ok 12 (pk_ok 6 h))
  have a2 := among_rc 0 2 (pk (pk s 6).2 12).2 [12, 24, 25] (by decide) ((pk_ok 12 (pk_ok 6 h)).mono (by omega)) (by simp) (by simp)
  simp only [nuR, List.map_cons, List.map_nil, List.length_cons, List.length_nil] at a2
  refine RC.ofc [bi] 0 [.ptr 0 0 0] [(0, ⟨109, 3, false, [srR s]⟩)] (.agg [.dsl 1 (nbL ds), .dsl 1 (nbL ap)]) [(0, some ⟨109, 3, false, [srR s']⟩)] Try.func71 Try.ntmps71 rfl (goFn_of Try.func71 rfl (by kernel_rfl)) rfl rfl rfl rfl rfl rfl rfl rfl (by simp_all) rfl ?_
  ((repeat' (first
    | (show SQ _ _ _ _ _ _ _ _; first | apply sq_nil | (apply q_move; exact rfl; exact rfl) | (apply q_assign; exact rfl; exact rfl) | (apply q_add; exact rfl; exact rfl; exact rfl) | (apply q_build; exact rfl; exact (ty rfl); exact rfl; exact rfl; exact rfl))
    | (show SQ _ _ _ _ _ _ _ _; (first | (apply q_alloc; exact rfl; exact (ty rfl); exact rfl; exact rfl) | (apply q_store; exact rfl; exact rfl; exact (ty rfl); exact rfl; exact (by first | rfl | assumption | ((try simp only [Nat.zero_add]); refine List.getElem?_set_self ?_; (try simp only [List.length_set]); assumption)); exact rfl; exact rfl; exact rfl) | (apply q_buildn; exact rfl; exact (ty rfl); exact rfl; exact rfl; exact rfl; exact rfl; exact rfl; exact rfl; exact rfl) | (apply q_callC; exact rfl; exact rfl; exact rfl; exact h1 0 _; (focus ((repeat (first | exact trivial | refine ⟨by first | exact rfl | assumption, ?_⟩)); done)); skip) | (apply q_callC; exact rfl; exact rfl; exact rfl; exact h2 0 _; (focus ((repeat (first | exact trivial | refine ⟨by first | exact rfl | assumption, ?_⟩)); done)); skip) | (apply q_callC; exact rfl; exact rfl; exact rfl; exact a2 _; (focus ((repeat (first | exact trivial | refine ⟨by first | exact rfl | assumption, ?_⟩)); done)); skip)); (try simp only [put, rowsOf, plR, List.all_cons, selE, ovr, setH, del, cellsA, splice, isV, List.nil_append, List.cons_append, List.map_cons, List.map_nil, List.length_cons, List.length_nil, List.set_cons_zero, List.set_cons_succ, List.take_succ_cons, List.take_zero, List.take_nil, List.drop_succ_cons, List.drop_zero, List.drop_nil, List.append_nil, List.all_cons, List.all_nil, Bool.and_true, Bool.true_and, Bool.and_false, Bool.false_and, Nat.reduceAdd, Nat.zero_add, Nat.add_zero, Nat.reduceEqDiff, if_true, if_false, reduceIte]))
    | (show AW _ _ _ _ _ _ _ _; first | refine aw_region ?_ | (refine aw_seqk ?_; intro K hK) | refine aw_block ?_ | (apply aw_cond_t; exact rfl; exact (by assumption)))
    | refine thn_n ?_
    | (refine hK _ _ _ ?_; clear hK K))); all_goals (repeat (clear hK K)))
  rw [hnv]
  generalize (am [12, 24, 25] (pk (pk s 6).2 12).2).2 = s2 at *
  refine aw_nilB 3 0 0 23 1 rfl rfl rfl rfl rfl ?_
  refine aw_nilB 3 0 1 23 1 rfl rfl rfl rfl rfl ?_
  refine aw_unpl 4 rfl ?_
  refine aw_unpl 5 rfl ?_
  show AW _ _ 1 _ _ _ _ _
  refine aw_loop (ρ := fun z => if z < 2 then z else z + 1) (ι := Nat) (fun i => ([(5, .v (.int .i64 i)), (4, .ptr 2 0 0), (3, .v (.int .i64 (n : Int))), (2, .ptr 1 0 0), (0, .ptr 0 0 0)],
      (0, ⟨109, 3, false, [srR (domsF s2 i).1]⟩) :: (1, ⟨50, 2, false, [[.v (.slice none 0 0), .v (.slice none 0 0)]]⟩) :: (2, ⟨50, 2, false, [[.sl 3 0 i, .sl 4 0 i]]⟩) :: (3, ⟨23, 1, false, nbL (domsF s2 i).2⟩) :: (4, ⟨23, 1, false, outR 5 (List.replicate i n)⟩) :: nst 5 (zrN n i), 1000))
    (fun i => i ≤ n) (fun i => n - i) 0 (Nat.zero_le _) ⟨by (repeat (refine ⟨by first | exact lk_i rfl rfl | exact lk_r rfl rfl rfl, ?_⟩)); exact trivial, by (repeat (refine ⟨by first | exact ⟨rfl, rfl, rfl⟩, ?_⟩)); exact trivial, by rfl, by (intro i hi; (try dsimp only); refine ⟨?_, ?_⟩ <;> first | rfl | omega | (simp at hi; omega) | (simp; omega))⟩ ?_
  intro i hi
  (try dsimp only)
  obtain ⟨k1, k2, k3⟩ := domsF_ok ok2 i
  have hzl := zrN_len n i
  have hol : (outR 5 (List.replicate i n)).length = i := by rw [outR_len, List.length_replicate]
  have hnt : ((n : Int)).toNat = n := Int.toNat_natCast n
  by_cases c1 : i < n
  · have b1 : decide ((i : Int) < (n : Int)) = true := by simpa using c1
    have hw : IntKind.i64.wrap ((i : Int) + 1) = ((i + 1 : Nat) : Int) := by rw [IntWalk.i64_in _ (by omega)]; omega
    have hdS : domsF s2 (i + 1) = ((dom1 (domsF s2 i).1).1, (domsF s2 i).2 ++ [(dom1 (domsF s2 i).1).2]) := rfl
    have hnl := nbL_len (domsF s2 i).2
    generalize domsF s2 i = Z at *
    obtain ⟨si, di⟩ := Z
    dsimp only at k1 k2 k3 hdS hnl ⊢
    have p1 := fun id => pick_rc id si 5 (k1.mono (by omega)) (by omega)
    have ok3 := pk_ok 5 k1
    have p2 := fun id => pick_rc id (pk si 5).2 6 (ok3.mono (by omega)) (by omega)
    have hq := domQ_le si
    have d0 := dom0_ok k1
    ((repeat' (first
    | (show SQ _ _ _ _ _ _ _ _; first | apply sq_nil | (apply q_move; exact rfl; exact rfl) | (apply q_assign; exact rfl; exact rfl) | (apply q_lss; exact rfl; exact rfl; exact rfl))
    | (show SQ _ _ _ _ _ _ _ _; (first | (apply q_buildn; exact rfl; exact (ty rfl); exact rfl; exact rfl; exact rfl; exact rfl; exact rfl; exact rfl; exact rfl) | (apply q_callC; exact rfl; exact rfl; exact rfl; exact p1 0 _; (focus ((repeat (first | exact trivial | refine ⟨by first | exact rfl | assumption, ?_⟩)); done)); skip) | (apply q_callC; exact rfl; exact rfl; exact rfl; exact p2 0 _; (focus ((repeat (first | exact trivial | refine ⟨by first | exact rfl | assumption, ?_⟩)); done)); skip)); (try simp only [put, rowsOf, plR, List.all_cons, selE, ovr, setH, del, cellsA, splice, isV, List.nil_append, List.cons_append, List.map_cons, List.map_nil, List.length_cons, List.length_nil, List.set_cons_zero, List.set_cons_succ, List.take_succ_cons, List.take_zero, List.take_nil, List.drop_succ_cons, List.drop_zero, List.drop_nil, List.append_nil, List.all_cons, List.all_nil, Bool.and_true, Bool.true_and, Bool.and_false, Bool.false_and, Nat.reduceAdd, Nat.zero_add, Nat.add_zero, Nat.reduceEqDiff, if_true, if_false, reduceIte]))
    | (show AW _ _ _ _ _ _ _ _; first | refine aw_region ?_ | (refine aw_seqk ?_; intro K hK) | refine aw_block ?_ | (apply aw_cond_t; exact rfl; exact (by assumption)) | refine aw_skip ?_)
    | refine thn_n ?_
    | (refine hK _ _ _ ?_; clear hK K))); all_goals (repeat (clear hK K)))
    rw [hq.2]
    refine aw_loop (ρ := id) (ι := Nat) (fun j => ([(7, .v (.int .i64 ((domQ si : Int) - (j : Int)))), (6, .sl 1000 0 (ptF 9 (dom0 si) j).2.length), (5, .v (.int .i64 i)), (4, .ptr 2 0 0), (3, .v (.int .i64 (n : Int))), (2, .ptr 1 0 0), (0, .ptr 0 0 0)],
        (1000, ⟨2, 1, true, (ptF 9 (dom0 si) j).2.map inL⟩) :: (0, ⟨109, 3, false, [srR (ptF 9 (dom0 si) j).1]⟩) :: (1, ⟨50, 2, false, [[.v (.slice none 0 0), .v (.slice none 0 0)]]⟩) :: (2, ⟨50, 2, false, [[.sl 3 0 i, .sl 4 0 i]]⟩) :: (3, ⟨23, 1, false, nbL di⟩) :: (4, ⟨23, 1, false, outR 5 (List.replicate i n)⟩) :: nst 5 (zrN n i), 1001))
      (fun j => j ≤ domQ si) (fun j => domQ si - j) 0 (Nat.zero_le _) ?_ ?_
    · refine sub_pre [(1000, _), (0, _), (1, _), (2, _), (3, _), (4, _)] ⟨lk_i rfl (by omega), lk_s rfl rfl rfl rfl, lk_i rfl rfl, ⟨rfl, rfl⟩, lk_i rfl rfl, ⟨rfl, rfl⟩, ⟨rfl, rfl⟩, trivial⟩ ?_ ?_ ?_ ?_ ?_
      · simp only [List.forall_mem_cons]
        refine ⟨⟨rfl, rfl, by decide⟩, ⟨rfl, rfl, by decide⟩, ⟨rfl, rfl, by decide⟩, ⟨rfl, rfl, by decide⟩, ⟨by show _ = some (renB (fun i => i) _); rw [renB_id]; rfl, nbL_ids _ _, by decide⟩, ⟨by show _ = some (renB (fun i => i) _); rw [renB_id]; rfl, outR_ids _ _ (by rw [List.length_replicate]; omega), by decide⟩, by simp⟩
      · intro j c hc
        obtain ⟨hj, rfl⟩ := zrN_get hc
        refine ⟨?_, rfl⟩
        show Aw.look _ (5 + j) = _
        rw [look_cons, if_neg (by omega), look_cons, if_neg (by omega), look_cons, if_neg (by omega), look_cons, if_neg (by omega), look_cons, if_neg (by omega), look_cons, if_neg (by omega), look_del_ne _ (by omega), look_del_ne _ (by omega), look_nst_at]
        exact hc
      · show 5 + (zrN n i).length ≤ 1001; rw [hzl]; omega
      · exact fun a c _ _ e => e
      · exact fun i hi => ⟨rfl, by show i < 1001; omega⟩
    · intro j hj
      (try dsimp only)
      obtain ⟨g1, g2⟩ := ptF_ok (m := 9) d0 j
      have hpS : ptF 9 (dom0 si) (j + 1) = ((pk (ptF 9 (dom0 si) j).1 9).2, putV (ptF 9 (dom0 si) j).2 (pk (ptF 9 (dom0 si) j).1 9).1) := rfl
      have hdl : (dom0 si).2.length = 1 := rfl
      by_cases c2 : j < domQ si
      · have b2 : decide ((0 : Int) < (domQ si : Int) - (j : Int)) = true := by rw [decide_eq_true_eq]; omega
        have hw2 : IntKind.i64.wrap ((domQ si : Int) - (j : Int) - 1) = (domQ si : Int) - ((j + 1 : Nat) : Int) := by have := hq.1; rw [IntWalk.i64_in _ (by omega)]; omega
        have hql := hq.1
        generalize ptF 9 (dom0 si) j = Z at *
        obtain ⟨sj, xj⟩ := Z
        dsimp only at g1 g2 hpS ⊢
        have p3 := fun id => pick_rc id sj 9 (g1.mono (by omega)) (by omega)
        have hxm : (xj.map inL).length = xj.length := List.length_map _
        have hPu := l00Put_ro xj (pk sj 9).1 (by omega)
        ((repeat' (first
    | (show SQ _ _ _ _ _ _ _ _; first | apply sq_nil | (apply q_move; exact rfl; exact rfl) | (apply q_assign; exact rfl; exact rfl) | (apply q_sub; exact rfl; exact rfl; exact rfl) | (apply q_gtr; exact rfl; exact rfl; exact rfl))
    | (show SQ _ _ _ _ _ _ _ _; (first | (apply q_callU; exact rfl; exact rfl; exact rfl; rotate_left; exact hPu _; rotate_right; focus ((repeat' (first | exact FzL.nil | exact (by assumption : FzC _) _ | refine FzL.cons ?_ ?_ | exact Fz.of rfl | exact Fz.nil | exact Fz.emp | (apply Fz.fnC; assumption) | (apply Fz.sl2; exact rfl; exact (by first | omega | (simp; done) | (simp; omega)); first | exact rfl | exact dt_full (by first | omega | (simp; done) | (simp; omega)) | assumption) | apply Fz.agg | (apply Fz.ptrL; exact rfl; first | exact rfl | assumption) | apply Fz.fnL)); done)) | (apply q_callC; exact rfl; exact rfl; exact rfl; exact p3 0 _; (focus ((repeat (first | exact trivial | refine ⟨by first | exact rfl | assumption, ?_⟩)); done)); skip)); (try simp only [put, rowsOf, plR, List.all_cons, selE, ovr, setH, del, cellsA, splice, isV, List.nil_append, List.cons_append, List.map_cons, List.map_nil, List.length_cons, List.length_nil, List.set_cons_zero, List.set_cons_succ, List.take_succ_cons, List.take_zero, List.take_nil, List.drop_succ_cons, List.drop_zero, List.drop_nil, List.append_nil, List.all_cons, List.all_nil, Bool.and_true, Bool.true_and, Bool.and_false, Bool.false_and, Nat.reduceAdd, Nat.zero_add, Nat.add_zero, Nat.reduceEqDiff, if_true, if_false, reduceIte]))
    | (show AW _ _ _ _ _ _ _ _; first | refine aw_region ?_ | (refine aw_seqk ?_; intro K hK) | refine aw_block ?_ | (apply aw_cond_t; exact rfl; exact (by assumption)) | refine aw_skip ?_)
    | refine thn_n ?_
    | (refine hK _ _ _ ?_; clear hK K)
    | refine inb_n ?_)); all_goals (repeat (clear hK K)))
        refine ⟨j + 1, mv 1000 1001, c2, by omega, ?_⟩
        (try dsimp only)
        rw [hpS, ← hw2]
        refine sub_pre [(1000, _), (0, _), (1, _), (2, _), (3, _), (4, _)] ⟨⟨rfl, rfl⟩, ⟨rfl, rfl⟩, ⟨rfl, rfl⟩, ⟨rfl, rfl⟩, ⟨rfl, rfl⟩, ⟨rfl, rfl⟩, ⟨rfl, rfl⟩, trivial⟩ ?_ ?_ ?_ ?_ ?_
        · simp only [List.forall_mem_cons]
          refine ⟨⟨rfl, rfl, by decide⟩, ⟨rfl, rfl, by decide⟩, ⟨rfl, rfl, by decide⟩, ⟨rfl, rfl, by decide⟩, ⟨?_, nbL_ids _ _, by decide⟩, ⟨?_, outR_ids _ _ (by rw [List.length_replicate]; omega), by decide⟩, by simp⟩
          · rw [renB_nb]; rfl
          · rw [renB_oR fun j hj => by rw [List.length_replicate] at hj; rw [mv, if_neg (by omega)]]; rfl
        · intro j c hc
          obtain ⟨hj, rfl⟩ := zrN_get hc
          refine ⟨?_, rfl⟩
          rw [mv, if_neg (by omega)]
          rw [look_cons, if_neg (by omega), look_cons, if_neg (by omega), look_cons, if_neg (by omega), look_cons, if_neg (by omega), look_cons, if_neg (by omega), look_cons, if_neg (by omega), look_cons, if_neg (by omega), look_del_ne _ (by omega), look_nst_at]
          exact hc
        · show 5 + (zrN n i).length ≤ 1001; rw [hzl]; omega
        · intro a c ha hc e
          have hb : ∀ a, (a ∈ ([1000, 0, 1, 2, 3, 4] : List Nat) ∨ 5 ≤ a ∧ a < 5 + (zrN n i).length) → a ≤ 1000 := fun a h => by
            rcases h with h | h
            · simp at h; omega
            · rw [hzl] at h; omega
          have h1 := hb a ha
          have h2 := hb c hc
          unfold mv at e
          split at e <;> split at e <;> omega
        · exact fun i hi => ⟨by rw [mv, if_neg (by omega)], by show i < 1001; omega⟩
      · have b2 : decide ((0 : Int) < (domQ si : Int) - (j : Int)) = false := by rw [decide_eq_false_iff_not]; omega
        obtain rfl : j = domQ si := by omega
        have hd1 : ptF 9 (dom0 si) (domQ si) = dom1 si := rfl
        rw [hd1]
        have ⟨g3, g4⟩ := dom1_ok k1
        generalize dom1 si = Z at *
        obtain ⟨sj, dj⟩ := Z
        dsimp only at hdS g3 g4 ⊢
        have hjm : (dj.map inL).length = dj.length := List.length_map _
        ((repeat' (first
    | (show SQ _ _ _ _ _ _ _ _; apply sq_frz (t := 41); exact rfl; exact rfl; exact (by first | rfl | exact all_noOwn_map (fun _ => rfl) | assumption | exact hclo); exact (by first | omega | (simp; done) | (simp; omega)); exact (by first | exact dt_full (by first | omega | (simp; done) | (simp; omega)) | assumption | rfl); (try simp only [put, rowsOf, plR, List.all_cons, selE, ovr, setH, del, cellsA, splice, isV, List.nil_append, List.cons_append, List.map_cons, List.map_nil, List.length_cons, List.length_nil, List.set_cons_zero, List.set_cons_succ, List.take_succ_cons, List.take_zero, List.take_nil, List.drop_succ_cons, List.drop_zero, List.drop_nil, List.append_nil, List.all_cons, List.all_nil, Bool.and_true, Bool.true_and, Bool.and_false, Bool.false_and, Nat.reduceAdd, Nat.zero_add, Nat.add_zero, Nat.reduceEqDiff, if_true, if_false, reduceIte]))
    | (show SQ _ _ _ _ _ _ _ _; first | apply sq_nil | (apply q_move; exact rfl; exact rfl) | (apply q_assign; exact rfl; exact rfl) | (apply q_fieldAddr; exact rfl; exact rfl; exact (ty rfl); exact rfl; exact rfl; exact rfl; exact rfl) | (apply q_add; exact rfl; exact rfl; exact rfl) | (apply q_gtr; exact rfl; exact rfl; exact rfl) | (apply q_ld1p; exact rfl; exact rfl; exact (ty rfl); exact rfl; exact rfl; exact (by first | rfl | assumption | ((try simp only [Nat.zero_add]); refine List.getElem?_set_self ?_; (try simp only [List.length_set]); assumption)); exact rfl))
    | (show SQ _ _ _ _ _ _ _ _; (first | (apply q_store; exact rfl; exact rfl; exact (ty rfl); exact rfl; exact (by first | rfl | assumption | ((try simp only [Nat.zero_add]); refine List.getElem?_set_self ?_; (try simp only [List.length_set]); assumption)); exact rfl; exact rfl; exact rfl) | (apply q_buildn; exact rfl; exact (ty rfl); exact rfl; exact rfl; exact rfl; exact rfl; exact rfl; exact rfl; exact rfl) | (apply q_apo_s; exact rfl; exact rfl; exact rfl; exact (ty rfl); exact rfl; exact rfl; exact (by first | omega | (simp; done) | (simp; omega)); exact (by first | exact List.take_of_length_le (by first | omega | (simp; done) | (simp; omega)) | rfl); exact (ty rfl); exact rfl; exact rfl; exact (by first | omega | (simp; done) | (simp; omega)); exact (by first | exact dt_full (by first | omega | (simp; done) | (simp; omega)) | assumption | rfl); exact rfl; exact (by first | omega | (simp; done) | (simp; omega)); exact (by first | omega | (simp; done) | (simp; omega)); exact (by first | assumption | exact rfl))); (try simp only [put, rowsOf, plR, List.all_cons, selE, ovr, setH, del, cellsA, splice, isV, List.nil_append, List.cons_append, List.map_cons, List.map_nil, List.length_cons, List.length_nil, List.set_cons_zero, List.set_cons_succ, List.take_succ_cons, List.take_zero, List.take_nil, List.drop_succ_cons, List.drop_zero, List.drop_nil, List.append_nil, List.all_cons, List.all_nil, Bool.and_true, Bool.true_and, Bool.and_false, Bool.false_and, Nat.reduceAdd, Nat.zero_add, Nat.add_zero, Nat.reduceEqDiff, if_true, if_false, reduceIte]))
    | (show DE _ _ _ _ _ _ _ _ _ _ _ _; first | (apply e_move; exact rfl; exact rfl; exact rfl) | (apply e_fieldAddr; exact rfl; exact rfl; exact (ty rfl); exact rfl; exact rfl; exact rfl; exact rfl; exact rfl) | (apply e_ld1p; exact rfl; exact rfl; exact (ty rfl); exact rfl; exact rfl; exact (by first | rfl | assumption | ((try simp only [Nat.zero_add]); refine List.getElem?_set_self ?_; (try simp only [List.length_set]); assumption)); exact rfl; exact rfl))
    | (show DE _ _ _ _ _ _ _ _ _ _ _ _; (first | (apply dr_nil; exact trivial) | (apply e_store; exact rfl; exact rfl; exact (ty rfl); exact rfl; exact (by first | rfl | assumption | ((try simp only [Nat.zero_add]); refine List.getElem?_set_self ?_; (try simp only [List.length_set]); assumption)); exact rfl; exact rfl; exact rfl; exact rfl) | (apply e_mks; exact rfl; exact rfl; exact rfl; exact (ty rfl); exact rfl; exact (by first | omega | (simp; done) | (simp; omega)); exact (by first | omega | (simp; done) | (simp; omega)); exact (by first | omega | (simp; done) | (simp; omega)); exact (by first | omega | (simp; done) | (simp; omega)); exact rfl; exact rfl; exact rfl) | (apply e_buildn; exact rfl; exact (ty rfl); exact rfl; exact rfl; exact rfl; exact rfl; exact rfl; exact rfl; exact rfl; exact rfl) | (apply e_apo_s; exact rfl; exact rfl; exact rfl; exact (ty rfl); exact rfl; exact rfl; exact (by first | omega | (simp; done) | (simp; omega)); exact (by first | exact List.take_of_length_le (by first | omega | (simp; done) | (simp; omega)) | rfl); exact (ty rfl); exact rfl; exact rfl; exact (by first | omega | (simp; done) | (simp; omega)); exact (by first | exact dt_full (by first | omega | (simp; done) | (simp; omega)) | assumption | rfl); exact rfl; exact (by first | omega | (simp; done) | (simp; omega)); exact (by first | omega | (simp; done) | (simp; omega)); exact (by first | assumption | exact rfl); exact rfl)); (try simp only [put, rowsOf, plR, List.all_cons, selE, ovr, setH, del, cellsA, splice, isV, List.nil_append, List.cons_append, List.map_cons, List.map_nil, List.length_cons, List.length_nil, List.set_cons_zero, List.set_cons_succ, List.take_succ_cons, List.take_zero, List.take_nil, List.drop_succ_cons, List.drop_zero, List.drop_nil, List.append_nil, List.all_cons, List.all_nil, Bool.and_true, Bool.true_and, Bool.and_false, Bool.false_and, Nat.reduceAdd, Nat.zero_add, Nat.add_zero, Nat.reduceEqDiff, if_true, if_false, reduceIte]))
    | (show AW _ _ _ _ _ _ _ _; first | refine aw_region ?_ | (refine aw_seqk ?_; intro K hK) | (apply aw_cond_f; exact rfl; exact (by assumption)) | refine aw_exit ?_ | refine aw_drawE (id := 14) [0, 1, 0, 4, 12, 31, 63, 127] [0, 1, 0, 1, 1, 2, 0, 2] mixed (by kernel_rfl) ?_)
    | refine thn_n ?_
    | (refine hK _ _ _ ?_; clear hK K)
    | refine thn_e ?_
    | refine inb_same ?_
    | refine inb_n ?_
    | (clear hK K; refine hK _ _ _ ?_; clear hK K))); all_goals (repeat (clear hK K)))
        rw [hnt]
        refine ⟨i + 1, fun z => if z < 3 then z else if z = 3 then 1002 else if z = 4 then 1005 else if z = 5 + i then 1003 else z, c1, by omega, ?_⟩
        (try dsimp only)
        rw [hdS, ← hw]
        have hlr : (List.replicate i n).length = i := List.length_replicate
        refine sub_pre [(0, _), (1, _), (2, _), (3, _), (4, _)] ⟨⟨rfl, rfl⟩, ⟨rfl, rfl⟩, ⟨rfl, rfl⟩, ⟨rfl, rfl⟩, ⟨rfl, rfl⟩, trivial⟩ ?_ ?_ ?_ ?_ ?_
        · simp only [List.forall_mem_cons]
          refine ⟨⟨?_, rfl, by decide⟩, ⟨?_, rfl, by decide⟩, ⟨?_, rfl, by decide⟩, ⟨?_, nbL_ids _ _, by decide⟩, ⟨?_, outR_ids _ _ (by rw [List.length_replicate]; omega), by decide⟩, by simp⟩
          · rfl
          · rfl
          · rfl
          · rw [renB_nb, nbL_app]; rfl
          · show Aw.look _ 1005 = some (⟨23, 1, false, (outR 5 (List.replicate (i + 1) n)).map (renL _)⟩ : Blk)
            rw [List.replicate_succ', outR_app, List.map_append, outR_ren (List.replicate i n) 5 5 fun j hj => by rw [hlr] at hj; rw [if_neg (by omega), if_neg (by omega), if_neg (by omega), if_neg (by omega)]]
            simp only [outR, List.map_cons, List.map_nil, renL, renA, hlr]
            first | rw [if_neg (by omega), if_neg (by omega), if_neg (by omega), if_pos rfl] | rw [if_neg (by omega), if_neg (by omega), if_neg (by omega), if_pos trivial] | simp only [if_true]
            rfl
        · intro j c hc
          obtain ⟨hj, rfl⟩ := zrN_get hc
          refine ⟨?_, rfl⟩
          by_cases e : j = i
          · subst e
            rw [if_neg (by omega), if_neg (by omega), if_neg (by omega), if_pos rfl, List.map_replicate]
            rfl
          · rw [if_neg (by omega), if_neg (by omega), if_neg (by omega), if_neg (by omega)]
            iterate 8 rw [look_cons, if_neg (by omega)]
            iterate 8 rw [look_del_ne _ (by omega)]
            rw [look_nst_at]
            simp [zrN, show j < i by omega]
        · show 5 + (zrN n (i + 1)).length ≤ 1000; rw [zrN_len]; omega
        · intro a c ha hc e
          have hb : ∀ a, (a ∈ ([0, 1, 2, 3, 4] : List Nat) ∨ 5 ≤ a ∧ a < 5 + (zrN n (i + 1)).length) → a ≤ 5 + i := fun a h => by
            rcases h with h | h
            · simp at h; omega
            · rw [zrN_len] at h; omega
          have h1 := hb a ha
          have h2 := hb c hc
          (try dsimp only at e)
          repeat' (split at e)
          all_goals omega
        · exact fun i hi => ⟨by rw [if_pos (by omega)], by show i < 1000; omega⟩
  · have b1 : decide ((i : Int) < (n : Int)) = false := by simpa using c1
    obtain rfl : i = n := by omega
    have hzn : zrN i i = niT (List.replicate i (List.replicate i 0)) := by simp [zrN, niT]
    have hZ0 : ∃ Z, domsF s2 i = Z := ⟨_, rfl⟩
    obtain ⟨⟨s3, dd⟩, hZ⟩ := hZ0
    rw [hZ] at k1 k2 k3 hE ⊢
    dsimp only at k1 k2 k3 hE ⊢
    rw [hzn]
    ((repeat' (first
    | (show SQ _ _ _ _ _ _ _ _; first | apply sq_nil | (apply q_move; exact rfl; exact rfl) | (apply q_assign; exact rfl; exact rfl) | (apply q_lss; exact rfl; exact rfl; exact rfl))
    | (show AW _ _ _ _ _ _ _ _; first | refine aw_region ?_ | (refine aw_seqk ?_; intro K hK) | refine aw_block ?_ | (apply aw_cond_f; exact rfl; exact (by assumption)) | refine aw_exit ?_)
    | refine thn_n ?_
    | (refine hK _ _ _ ?_; clear hK K)
    | refine thn_e ?_
    | refine inb_same ?_
    | (clear hK K; refine hK _ _ _ ?_; clear hK K))); all_goals (repeat (clear hK K)))
    show AW _ _ 1 _ _ _ _ _
    refine aw_loop (ρ := id) (ι := Nat) (fun r => ([(8, .v (.int .i64 r)), (4, .ptr 2 0 0), (3, .v (.int .i64 (i : Int))), (2, .ptr 1 0 0), (0, .ptr 0 0 0)],
        (0, ⟨109, 3, false, [srR (apF (s3, List.replicate i (List.replicate i 0)) r).1]⟩) :: (1, ⟨50, 2, false, [[.v (.slice none 0 0), .v (.slice none 0 0)]]⟩) :: (2, ⟨50, 2, false, [[.sl 3 0 i, .sl 4 0 i]]⟩) :: (3, ⟨23, 1, false, nbL dd⟩) :: (4, ⟨23, 1, false, outR 5 (List.replicate i i)⟩) :: nst 5 (niT (apF (s3, List.replicate i (List.replicate i 0)) r).2), 1000))
      (fun r => r ≤ i) (fun r => i - r) 0 (Nat.zero_le _) ?_ ?_
    · refine sub_pre [(0, _), (1, _), (2, _), (3, _), (4, _)] ⟨lk_i rfl rfl, ⟨rfl, rfl⟩, lk_i rfl rfl, ⟨rfl, rfl⟩, ⟨rfl, rfl⟩, trivial⟩ ?_ ?_ ?_ ?_ ?_
      · simp only [List.forall_mem_cons]
        refine ⟨⟨rfl, rfl, by decide⟩, ⟨rfl, rfl, by decide⟩, ⟨rfl, rfl, by decide⟩, ⟨by rw [renB_nb]; rfl, nbL_ids _ _, by decide⟩, ⟨by rw [renB_oR fun j _ => rfl]; rfl, outR_ids _ _ (by rw [List.length_replicate]; omega), by decide⟩, by simp⟩
      · intro j c hc
        have hc2 := hc
        obtain ⟨hj, rfl⟩ := niT_get hc2
        refine ⟨?_, rfl⟩
        show Aw.look _ (5 + j) = _
        iterate 5 rw [look_cons, if_neg (by omega)]
        rw [look_nst_at]
        exact hc
      · show 5 + (niT (List.replicate i (List.replicate i 0))).length ≤ 1000; rw [niT_len, List.length_replicate]; omega
      · exact fun a c _ _ e => e
      · exact fun i hi => ⟨rfl, by show i < 1000; omega⟩
    · intro r hr
      (try dsimp only)
      obtain ⟨k4, k5⟩ := apF_ok (n := i) (z := (s3, List.replicate i (List.replicate i 0))) k1 (Sq.zero i) hn2 r hr
      by_cases c2 : r < i
      · have b2 : decide ((r : Int) < (i : Int)) = true := by simpa using c2
        have hwr : IntKind.i64.wrap ((r : Int) + 1) = ((r + 1 : Nat) : Int) := by rw [IntWalk.i64_in _ (by omega)]; omega
        have hFS : apF (s3, List.replicate i (List.replicate i 0)) (r + 1) = apR r (apF (s3, List.replicate i (List.replicate i 0)) r) r := rfl
        generalize apF (s3, List.replicate i (List.replicate i 0)) r = Z at *
        ((repeat' (first
    | (show SQ _ _ _ _ _ _ _ _; first | apply sq_nil | (apply q_move; exact rfl; exact rfl) | (apply q_assign; exact rfl; exact rfl) | (apply q_lss; exact rfl; exact rfl; exact rfl))
    | (show AW _ _ _ _ _ _ _ _; first | refine aw_region ?_ | (refine aw_seqk ?_; intro K hK) | refine aw_block ?_ | (apply aw_cond_t; exact rfl; exact (by assumption)) | refine aw_skip ?_)
    | refine thn_n ?_
    | (refine hK _ _ _ ?_; clear hK K))); all_goals (repeat (clear hK K)))
        refine aw_loop (ρ := id) (ι := Nat) (fun q => ([(9, .v (.int .i64 q)), (8, .v (.int .i64 r)), (4, .ptr 2 0 0), (3, .v (.int .i64 (i : Int))), (2, .ptr 1 0 0), (0, .ptr 0 0 0)],
            (0, ⟨109, 3, false, [srR (apR r Z q).1]⟩) :: (1, ⟨50, 2, false, [[.v (.slice none 0 0), .v (.slice none 0 0)]]⟩) :: (2, ⟨50, 2, false, [[.sl 3 0 i, .sl 4 0 i]]⟩) :: (3, ⟨23, 1, false, nbL dd⟩) :: (4, ⟨23, 1, false, outR 5 (List.replicate i i)⟩) :: nst 5 (niT (apR r Z q).2), 1000))
          (fun q => q ≤ r) (fun q => r - q) 0 (Nat.zero_le _) ?_ ?_
        · exact sub_five ⟨lk_i rfl rfl, lk_i rfl rfl, ⟨rfl, rfl⟩, lk_i rfl rfl, ⟨rfl, rfl⟩, ⟨rfl, rfl⟩, trivial⟩ k5 hn2 (Nat.le_refl _) rfl rfl rfl (renB_nb _ _ _) rfl rfl rfl (nbL_ids _ _) ⟨rfl, rfl, rfl, rfl, rfl, trivial⟩ nst_five (fun i hi => ⟨rfl, by show i < 1000; omega⟩)
        · intro q hq
          (try dsimp only)
          obtain ⟨g1, g2⟩ := apR_ok (n := i) k4 k5 c2 q hq
          by_cases c3 : q < r
          · have b3 : decide ((q : Int) < (r : Int)) = true := by simpa using c3
            have hw3 : IntKind.i64.wrap ((q : Int) + 1) = ((q + 1 : Nat) : Int) := by rw [IntWalk.i64_in _ (by omega)]; omega
            have hRS : apR r Z (q + 1) = if ((pk (apR r Z q).1 2).1 == 0) = true then ((pk (pk (apR r Z q).1 2).2 3).2, wrA (wrA (apR r Z q).2 r q (pk (pk (apR r Z q).1 2).2 3).1) q r (pk (pk (apR r Z q).1 2).2 3).1) else ((pk (apR r Z q).1 2).2, (apR r Z q).2) := rfl
            generalize apR r Z q = Y at *
            obtain ⟨sq, aq⟩ := Y
            dsimp only at g1 g2 hRS ⊢
            have p4 := fun id => one_rc id sq 2 (g1.mono (by omega)) (by omega)
            have p5 := fun id => pick_rc id (pk sq 2).2 3 ((pk_ok 2 g1).mono (by omega)) (by omega)
            by_cases c4 : ((pk sq 2).1 == 0) = true
            · rw [if_pos c4] at hRS
              have hor := out_at (b := 5) c2
              have hrr := row_at (l := aq.getD r []) (i := q) (by rw [g2.row c2]; omega)
              ((repeat' (first
    | (show SQ _ _ _ _ _ _ _ _; first | apply sq_nil | (apply q_move; exact rfl; exact rfl) | (apply q_assign; exact rfl; exact rfl) | (apply q_fieldAddr; exact rfl; exact rfl; exact (ty rfl); exact rfl; exact rfl; exact rfl; exact rfl) | (apply q_lss; exact rfl; exact rfl; exact rfl) | (apply q_ixl; exact rfl; exact rfl; exact rfl; exact (ty rfl); exact rfl; exact rfl; exact rfl; exact (by first | omega | (simp; done) | (simp; omega)); exact (by first | omega | (simp; done) | (simp; omega))) | (apply q_ld1p; exact rfl; exact rfl; exact (ty rfl); exact rfl; exact rfl; exact (by first | rfl | assumption | ((try simp only [Nat.zero_add]); refine List.getElem?_set_self ?_; (try simp only [List.length_set]); assumption)); exact rfl))
    | (show SQ _ _ _ _ _ _ _ _; (first | (apply q_callC; exact rfl; exact rfl; exact rfl; exact p4 0 _; (focus ((repeat (first | exact trivial | refine ⟨by first | exact rfl | assumption, ?_⟩)); done)); skip) | (apply q_callC; exact rfl; exact rfl; exact rfl; exact p5 0 _; (focus ((repeat (first | exact trivial | refine ⟨by first | exact rfl | assumption, ?_⟩)); done)); skip)); (try simp only [put, rowsOf, plR, List.all_cons, selE, ovr, setH, del, cellsA, splice, isV, List.nil_append, List.cons_append, List.map_cons, List.map_nil, List.length_cons, List.length_nil, List.set_cons_zero, List.set_cons_succ, List.take_succ_cons, List.take_zero, List.take_nil, List.drop_succ_cons, List.drop_zero, List.drop_nil, List.append_nil, List.all_cons, List.all_nil, Bool.and_true, Bool.true_and, Bool.and_false, Bool.false_and, Nat.reduceAdd, Nat.zero_add, Nat.add_zero, Nat.reduceEqDiff, if_true, if_false, reduceIte]))
    | (show AW _ _ _ _ _ _ _ _; first | refine aw_region ?_ | (refine aw_seqk ?_; intro K hK) | refine aw_block ?_ | (apply aw_cond_t; exact rfl; exact (by assumption)) | refine aw_skip ?_)
    | refine thn_n ?_
    | (refine hK _ _ _ ?_; clear hK K))); all_goals (repeat (clear hK K)))
              refine sq_sub (canon1 (O := [(0, _), (1, _), (2, _), (3, _), (4, _)]) (b1 := 5) (L1 := niT (aq)) ⟨rfl, rfl, rfl, rfl, rfl, trivial⟩ (by repeat (first | exact NstIn.here' | refine NstIn.cons (by omega) ?_ | refine NstIn.del (by omega) ?_))) ?_
              simp only [List.cons_append, List.nil_append]
              have hbr := nst_five (B0 := ⟨109, 3, false, [srR (pk (pk sq 2).2 3).2]⟩) (B1 := ⟨50, 2, false, [[.v (.slice none 0 0), .v (.slice none 0 0)]]⟩) (B2 := ⟨50, 2, false, [[.sl 3 0 i, .sl 4 0 i]]⟩) (B3 := ⟨23, 1, false, nbL dd⟩) (B4 := ⟨23, 1, false, outR 5 (List.replicate i i)⟩) (bs := niT (aq)) r _ (niT_at (by rw [g2.1]; omega))
              ((repeat' (first
    | (show SQ _ _ _ _ _ _ _ _; first | (apply q_ixl; exact rfl; exact rfl; exact rfl; exact (ty rfl); exact rfl; exact (by assumption); exact rfl; exact (by first | omega | (simp; done) | (simp; omega)); exact (by first | omega | (simp; done) | (simp; omega)))))); all_goals (repeat (clear hK K)))
              refine q_store rfl rfl (ty rfl) hbr hrr rfl rfl rfl ?_
              refine sq_sub (canon1 (O := [(0, _), (1, _), (2, _), (3, _), (4, _)]) (b1 := 5) (L1 := niT (wrA aq r q (pk (pk sq 2).2 3).1)) (subE_put ⟨rfl, rfl, rfl, rfl, rfl, trivial⟩ (by simp; omega)) (NstIn.put nst_five (by rw [g2.1]; omega) (by omega))) ?_
              simp only [List.cons_append, List.nil_append]
              have g3 := g2.wr c2 q (pk (pk sq 2).2 3).1
              have hor2 := out_at (b := 5) (n := i) (i := q) (by omega)
              have hrr2 := row_at (l := (wrA aq r q (pk (pk sq 2).2 3).1).getD q []) (i := r) (by rw [g3.row (by omega)]; omega)
              generalize wrA aq r q (pk (pk sq 2).2 3).1 = aq2 at *
              have hbr := nst_five (B0 := ⟨109, 3, false, [srR (pk (pk sq 2).2 3).2]⟩) (B1 := ⟨50, 2, false, [[.v (.slice none 0 0), .v (.slice none 0 0)]]⟩) (B2 := ⟨50, 2, false, [[.sl 3 0 i, .sl 4 0 i]]⟩) (B3 := ⟨23, 1, false, nbL dd⟩) (B4 := ⟨23, 1, false, outR 5 (List.replicate i i)⟩) (bs := niT (aq2)) q _ (niT_at (by rw [g3.1]; omega))
              ((repeat' (first
    | (show SQ _ _ _ _ _ _ _ _; first | apply sq_nil | (apply q_move; exact rfl; exact rfl) | (apply q_fieldAddr; exact rfl; exact rfl; exact (ty rfl); exact rfl; exact rfl; exact rfl; exact rfl) | (apply q_ixl; exact rfl; exact rfl; exact rfl; exact (ty rfl); exact rfl; exact rfl; exact rfl; exact (by first | omega | (simp; done) | (simp; omega)); exact (by first | omega | (simp; done) | (simp; omega))) | (apply q_ld1p; exact rfl; exact rfl; exact (ty rfl); exact rfl; exact rfl; exact (by first | rfl | assumption | ((try simp only [Nat.zero_add]); refine List.getElem?_set_self ?_; (try simp only [List.length_set]); assumption)); exact rfl) | (apply q_ixl; exact rfl; exact rfl; exact rfl; exact (ty rfl); exact rfl; exact (by assumption); exact rfl; exact (by first | omega | (simp; done) | (simp; omega)); exact (by first | omega | (simp; done) | (simp; omega))))
    | (show AW _ _ _ _ _ _ _ _; first | refine aw_region ?_)
    | refine thn_n ?_
    | (refine hK _ _ _ ?_; clear hK K))); all_goals (repeat (clear hK K)))
              refine q_store rfl rfl (ty rfl) hbr hrr2 rfl rfl rfl ?_
              refine sq_sub (canon1 (O := [(0, _), (1, _), (2, _), (3, _), (4, _)]) (b1 := 5) (L1 := niT (wrA aq2 q r (pk (pk sq 2).2 3).1)) (subE_put ⟨rfl, rfl, rfl, rfl, rfl, trivial⟩ (by simp; omega)) (NstIn.put nst_five (by rw [g3.1]; omega) (by omega))) ?_
              simp only [List.cons_append, List.nil_append]
              ((repeat' (first
    | (show SQ _ _ _ _ _ _ _ _; first | apply sq_nil | (apply q_move; exact rfl; exact rfl) | (apply q_assign; exact rfl; exact rfl) | (apply q_add; exact rfl; exact rfl; exact rfl))
    | (show AW _ _ _ _ _ _ _ _; first | refine aw_region ?_)
    | refine thn_n ?_
    | (refine hK _ _ _ ?_; clear hK K)
    | refine inb_n ?_)); all_goals (repeat (clear hK K)))
              refine ⟨q + 1, id, c3, by omega, ?_⟩
              (try dsimp only)
              rw [hRS, ← hw3]
              exact sub_five ⟨lk_i rfl rfl, lk_i rfl rfl, ⟨rfl, rfl⟩, lk_i rfl rfl, ⟨rfl, rfl⟩, ⟨rfl, rfl⟩, trivial⟩ (g3.wr (by omega) r _) hn2 (Nat.le_refl _) rfl rfl rfl (renB_nb _ _ _) rfl rfl rfl (nbL_ids _ _) ⟨rfl, rfl, rfl, rfl, rfl, trivial⟩ nst_five (fun i hi => ⟨rfl, by show i < 1000; omega⟩)
            · have c5 : ((pk sq 2).1 == 0) = false := by simpa using c4
              rw [if_neg c4] at hRS
              ((repeat' (first
    | (show SQ _ _ _ _ _ _ _ _; first | apply sq_nil | (apply q_move; exact rfl; exact rfl) | (apply q_assign; exact rfl; exact rfl) | (apply q_add; exact rfl; exact rfl; exact rfl) | (apply q_lss; exact rfl; exact rfl; exact rfl))
    | (show SQ _ _ _ _ _ _ _ _; (first | (apply q_callC; exact rfl; exact rfl; exact rfl; exact p4 0 _; (focus ((repeat (first | exact trivial | refine ⟨by first | exact rfl | assumption, ?_⟩)); done)); skip)); (try simp only [put, rowsOf, plR, List.all_cons, selE, ovr, setH, del, cellsA, splice, isV, List.nil_append, List.cons_append, List.map_cons, List.map_nil, List.length_cons, List.length_nil, List.set_cons_zero, List.set_cons_succ, List.take_succ_cons, List.take_zero, List.take_nil, List.drop_succ_cons, List.drop_zero, List.drop_nil, List.append_nil, List.all_cons, List.all_nil, Bool.and_true, Bool.true_and, Bool.and_false, Bool.false_and, Nat.reduceAdd, Nat.zero_add, Nat.add_zero, Nat.reduceEqDiff, if_true, if_false, reduceIte]))
    | (show AW _ _ _ _ _ _ _ _; first | refine aw_region ?_ | (refine aw_seqk ?_; intro K hK) | refine aw_block ?_ | (apply aw_cond_t; exact rfl; exact (by assumption)) | (apply aw_cond_f; exact rfl; exact (by assumption)) | refine aw_skip ?_)
    | refine thn_n ?_
    | (refine hK _ _ _ ?_; clear hK K)
    | refine inb_n ?_)); all_goals (repeat (clear hK K)))
              refine ⟨q + 1, id, c3, by omega, ?_⟩
              (try dsimp only)
              rw [hRS, ← hw3]
              exact sub_five ⟨lk_i rfl rfl, lk_i rfl rfl, ⟨rfl, rfl⟩, lk_i rfl rfl, ⟨rfl, rfl⟩, ⟨rfl, rfl⟩, trivial⟩ g2 hn2 (Nat.le_refl _) rfl rfl rfl (renB_nb _ _ _) rfl rfl rfl (nbL_ids _ _) ⟨rfl, rfl, rfl, rfl, rfl, trivial⟩ (by repeat (first | exact NstIn.here' | refine NstIn.cons (by omega) ?_ | refine NstIn.del (by omega) ?_)) (fun i hi => ⟨rfl, by show i < 1000; omega⟩)
          · have b3 : decide ((q : Int) < (r : Int)) = false := by simpa using c3
            obtain rfl : q = r := by omega
            ((repeat' (first
    | (show SQ _ _ _ _ _ _ _ _; first | apply sq_nil | (apply q_move; exact rfl; exact rfl) | (apply q_assign; exact rfl; exact rfl) | (apply q_add; exact rfl; exact rfl; exact rfl) | (apply q_lss; exact rfl; exact rfl; exact rfl))
    | (show AW _ _ _ _ _ _ _ _; first | refine aw_region ?_ | (refine aw_seqk ?_; intro K hK) | (apply aw_cond_f; exact rfl; exact (by assumption)) | refine aw_exit ?_)
    | refine thn_n ?_
    | (refine hK _ _ _ ?_; clear hK K)
    | refine thn_e ?_
    | refine inb_same ?_
    | refine inb_n ?_
    | (clear hK K; refine hK _ _ _ ?_; clear hK K))); all_goals (repeat (clear hK K)))
            refine ⟨q + 1, id, c2, by omega, ?_⟩
            (try dsimp only)
            rw [hFS, ← hwr]
            exact sub_five ⟨lk_i rfl rfl, ⟨rfl, rfl⟩, lk_i rfl rfl, ⟨rfl, rfl⟩, ⟨rfl, rfl⟩, trivial⟩ g2 hn2 (Nat.le_refl _) rfl rfl rfl (renB_nb _ _ _) rfl rfl rfl (nbL_ids _ _) ⟨rfl, rfl, rfl, rfl, rfl, trivial⟩ (by repeat (first | exact NstIn.here' | refine NstIn.cons (by omega) ?_ | refine NstIn.del (by omega) ?_)) (fun i hi => ⟨rfl, by show i < 1000; omega⟩)
      · have b2 : decide ((r : Int) < (i : Int)) = false := by simpa using c2
        obtain rfl : r = i := by omega
        generalize apF (s3, List.replicate r (List.replicate r 0)) r = Z at *
        obtain ⟨s4, A⟩ := Z
        dsimp only at k4 k5 ⊢
        have hAl := k5.1
        have hNl := niT_len A
        have p6 := fun id => pick_rc id s4 20 (k4.mono (by omega)) (by omega)
        have ok5 := pk_ok 20 k4
        unfold prE at hE
        dsimp only at hE
        generalize pk s4 20 = P at *
        obtain ⟨p, s5⟩ := P
        dsimp only at hE p6 ok5
        by_cases d0 : p = 0
        · have b4 : (p == 0) = true := by simpa using d0
          rw [if_pos d0] at hE
          simp only [Prod.mk.injEq] at hE
          obtain ⟨rfl, rfl, rfl⟩ := hE
          have hnl := nbL_len dd
          have hrow : (nbL dd)[0 + ((0 : Int)).toNat]? = some [.dsl 1 (dd[0].map inL)] := nbL_get (i := 0) (by omega)
          ((repeat' (first
    | (show SQ _ _ _ _ _ _ _ _; apply sq_frz (t := 88); exact rfl; exact rfl; exact (by first | rfl | exact all_noOwn_map (fun _ => rfl) | assumption | exact hclo); exact (by first | omega | (simp; done) | (simp; omega)); exact (by first | exact dt_full (by first | omega | (simp; done) | (simp; omega)) | assumption | rfl); (try simp only [put, rowsOf, plR, List.all_cons, selE, ovr, setH, del, cellsA, splice, isV, List.nil_append, List.cons_append, List.map_cons, List.map_nil, List.length_cons, List.length_nil, List.set_cons_zero, List.set_cons_succ, List.take_succ_cons, List.take_zero, List.take_nil, List.drop_succ_cons, List.drop_zero, List.drop_nil, List.append_nil, List.all_cons, List.all_nil, Bool.and_true, Bool.true_and, Bool.and_false, Bool.false_and, Nat.reduceAdd, Nat.zero_add, Nat.add_zero, Nat.reduceEqDiff, if_true, if_false, reduceIte]))
    | (show SQ _ _ _ _ _ _ _ _; first | apply sq_nil | (apply q_move; exact rfl; exact rfl) | (apply q_assign; exact rfl; exact rfl) | (apply q_fieldAddr; exact rfl; exact rfl; exact (ty rfl); exact rfl; exact rfl; exact rfl; exact rfl) | (apply q_eql; exact rfl; exact rfl; exact rfl) | (apply q_lss; exact rfl; exact rfl; exact rfl) | (apply q_ixl; exact rfl; exact rfl; exact rfl; exact (ty rfl); exact rfl; exact rfl; exact rfl; exact (by first | omega | (simp; done) | (simp; omega)); exact (by first | omega | (simp; done) | (simp; omega))) | (apply q_ld1p; exact rfl; exact rfl; exact (ty rfl); exact rfl; exact rfl; exact (by first | rfl | assumption | ((try simp only [Nat.zero_add]); refine List.getElem?_set_self ?_; (try simp only [List.length_set]); assumption)); exact rfl))
    | (show SQ _ _ _ _ _ _ _ _; (first | (apply q_build0; exact rfl; exact (ty rfl); exact rfl) | (apply q_callC; exact rfl; exact rfl; exact rfl; exact p6 0 _; (focus ((repeat (first | exact trivial | refine ⟨by first | exact rfl | assumption, ?_⟩)); done)); skip)); (try simp only [put, rowsOf, plR, List.all_cons, selE, ovr, setH, del, cellsA, splice, isV, List.nil_append, List.cons_append, List.map_cons, List.map_nil, List.length_cons, List.length_nil, List.set_cons_zero, List.set_cons_succ, List.take_succ_cons, List.take_zero, List.take_nil, List.drop_succ_cons, List.drop_zero, List.drop_nil, List.append_nil, List.all_cons, List.all_nil, Bool.and_true, Bool.true_and, Bool.and_false, Bool.false_and, Nat.reduceAdd, Nat.zero_add, Nat.add_zero, Nat.reduceEqDiff, if_true, if_false, reduceIte]))
    | (show AW _ _ _ _ _ _ _ _; first | refine aw_region ?_ | (refine aw_seqk ?_; intro K hK) | refine aw_block ?_ | (apply aw_cond_t; exact rfl; exact (by assumption)) | (apply aw_cond_f; exact rfl; exact (by assumption)) | refine aw_exit ?_)
    | refine thn_n ?_
    | (refine hK _ _ _ ?_; clear hK K)
    | refine thn_e ?_
    | refine inb_same ?_
    | (clear hK K; refine hK _ _ _ ?_; clear hK K))); all_goals (repeat (clear hK K)))
          refine q_store rfl rfl (ty rfl) rfl hrow rfl rfl rfl ?_
          have hset : (nbL dd).set 0 [.dsl 1 []] = nbL (dd.set 0 []) := by unfold nbL; rw [List.map_set]; rfl
          refine sq_sub (canon1 (O := [(0, _), (1, _), (2, ⟨50, 2, false, [[.sl 3 0 r, .sl 4 0 r]]⟩), (3, ⟨23, 1, false, nbL (dd.set 0 [])⟩), (4, _)]) (b1 := 5) (L1 := niT A) ⟨rfl, rfl, rfl, by rw [← hset]; rfl, rfl, trivial⟩ (by repeat (first | exact NstIn.here' | refine NstIn.cons (by omega) ?_ | refine NstIn.del (by omega) ?_))) ?_
          simp only [List.cons_append, List.nil_append]
          have k6 : (dd.set 0 []).length = r := by rw [List.length_set]; exact k2
          ((repeat' (first
    | (show SQ _ _ _ _ _ _ _ _; first | apply sq_nil)
    | (show SQ _ _ _ _ _ _ _ _; (first | (apply q_ldap; exact rfl; exact rfl; exact (ty rfl); exact rfl; exact rfl; exact (by first | rfl | assumption | ((try simp only [Nat.zero_add]); refine List.getElem?_set_self ?_; (try simp only [List.length_set]); assumption)); exact rfl)); (try simp only [put, rowsOf, plR, List.all_cons, selE, ovr, setH, del, cellsA, splice, isV, List.nil_append, List.cons_append, List.map_cons, List.map_nil, List.length_cons, List.length_nil, List.set_cons_zero, List.set_cons_succ, List.take_succ_cons, List.take_zero, List.take_nil, List.drop_succ_cons, List.drop_zero, List.drop_nil, List.append_nil, List.all_cons, List.all_nil, Bool.and_true, Bool.true_and, Bool.and_false, Bool.false_and, Nat.reduceAdd, Nat.zero_add, Nat.add_zero, Nat.reduceEqDiff, if_true, if_false, reduceIte]))
    | (show AW _ _ _ _ _ _ _ _; first | refine aw_region ?_ | (refine aw_seqk ?_; intro K hK))
    | refine thn_n ?_
    | (refine hK _ _ _ ?_; clear hK K)
    | refine inb_n ?_)); all_goals (repeat (clear hK K)))
          have hnlz := nbL_len (dd.set 0 [])
          have hnoz := nbL_no (dd.set 0 [])
          refine sq_frzNA 111 (.sl 3 0 r) [(0, _), (1, _), (3, _)] (ls := A) (by rfl) (by unfold niB; rw [k5.lens]; rfl) (by repeat (first | exact NstIn.here' | refine NstIn.cons (by omega) ?_ | refine NstIn.del (by omega) ?_)) k5.1.symm ⟨rfl, rfl, rfl, trivial⟩ (by simp) ?_
          ((repeat' (first
    | (show SQ _ _ _ _ _ _ _ _; apply sq_frza (t := 111) 0; exact rfl; exact rfl; exact rfl; exact (by first | rfl | exact all_noOwn_map (fun _ => rfl) | assumption | exact hclo); exact (by first | omega | (simp; done) | (simp; omega)); exact (by first | exact dt_full (by first | omega | (simp; done) | (simp; omega)) | assumption | rfl); (try simp only [put, rowsOf, plR, List.all_cons, selE, ovr, setH, del, cellsA, splice, isV, List.nil_append, List.cons_append, List.map_cons, List.map_nil, List.length_cons, List.length_nil, List.set_cons_zero, List.set_cons_succ, List.take_succ_cons, List.take_zero, List.take_nil, List.drop_succ_cons, List.drop_zero, List.drop_nil, List.append_nil, List.all_cons, List.all_nil, Bool.and_true, Bool.true_and, Bool.and_false, Bool.false_and, Nat.reduceAdd, Nat.zero_add, Nat.add_zero, Nat.reduceEqDiff, if_true, if_false, reduceIte]))
    | (show SQ _ _ _ _ _ _ _ _; first | apply sq_nil)
    | (show SQ _ _ _ _ _ _ _ _; (first | (apply q_store; exact rfl; exact rfl; exact (ty rfl); exact rfl; exact (by first | rfl | assumption | ((try simp only [Nat.zero_add]); refine List.getElem?_set_self ?_; (try simp only [List.length_set]); assumption)); exact rfl; exact rfl; exact rfl)); (try simp only [put, rowsOf, plR, List.all_cons, selE, ovr, setH, del, cellsA, splice, isV, List.nil_append, List.cons_append, List.map_cons, List.map_nil, List.length_cons, List.length_nil, List.set_cons_zero, List.set_cons_succ, List.take_succ_cons, List.take_zero, List.take_nil, List.drop_succ_cons, List.drop_zero, List.drop_nil, List.append_nil, List.all_cons, List.all_nil, Bool.and_true, Bool.true_and, Bool.and_false, Bool.false_and, Nat.reduceAdd, Nat.zero_add, Nat.add_zero, Nat.reduceEqDiff, if_true, if_false, reduceIte]))
    | (show AW _ _ _ _ _ _ _ _; first | refine aw_ret ?_)
    | refine thn_n ?_
    | (refine hK _ _ _ ?_; clear hK K))); all_goals (repeat (clear hK K)))
          exact finc id (.r1 _ _ (.agg _ _ _ _ _ rfl (.inr ⟨_, _, _, _, _, rfl, rfl, rfl, rfl⟩) (ty rfl) rfl (Nat.le_of_ble_eq_true rfl))) rfl (fun _ _ => rfl) ⟨rfl, trivial⟩ rfl
        · have b4 : (p == 0) = false := by simpa using d0
          rw [if_neg d0] at hE
          by_cases d1 : p = 1
          · have b5 : (p == 1) = true := by simpa using d1
            rw [if_pos d1] at hE
            simp only [Prod.mk.injEq] at hE
            obtain ⟨rfl, rfl, rfl⟩ := hE
            have hor : (outR 5 (List.replicate r r))[0 + ((0 : Int)).toNat]? = some [.sl 5 0 r] := out_at (i := 0) (by omega)
            have hrr : ((A.getD 0 []).map inL)[0 + ((0 : Int)).toNat]? = some [.v (.int .i64 ((A.getD 0 []).getD 0 0))] := row_at (i := 0) (by rw [k5.row (by omega)]; omega)
            ((repeat' (first
    | (show SQ _ _ _ _ _ _ _ _; first | apply sq_nil | (apply q_move; exact rfl; exact rfl) | (apply q_assign; exact rfl; exact rfl) | (apply q_fieldAddr; exact rfl; exact rfl; exact (ty rfl); exact rfl; exact rfl; exact rfl; exact rfl) | (apply q_eql; exact rfl; exact rfl; exact rfl) | (apply q_lss; exact rfl; exact rfl; exact rfl) | (apply q_ixl; exact rfl; exact rfl; exact rfl; exact (ty rfl); exact rfl; exact rfl; exact rfl; exact (by first | omega | (simp; done) | (simp; omega)); exact (by first | omega | (simp; done) | (simp; omega))) | (apply q_ld1p; exact rfl; exact rfl; exact (ty rfl); exact rfl; exact rfl; exact (by first | rfl | assumption | ((try simp only [Nat.zero_add]); refine List.getElem?_set_self ?_; (try simp only [List.length_set]); assumption)); exact rfl))
    | (show SQ _ _ _ _ _ _ _ _; (first | (apply q_callC; exact rfl; exact rfl; exact rfl; exact p6 0 _; (focus ((repeat (first | exact trivial | refine ⟨by first | exact rfl | assumption, ?_⟩)); done)); skip)); (try simp only [put, rowsOf, plR, List.all_cons, selE, ovr, setH, del, cellsA, splice, isV, List.nil_append, List.cons_append, List.map_cons, List.map_nil, List.length_cons, List.length_nil, List.set_cons_zero, List.set_cons_succ, List.take_succ_cons, List.take_zero, List.take_nil, List.drop_succ_cons, List.drop_zero, List.drop_nil, List.append_nil, List.all_cons, List.all_nil, Bool.and_true, Bool.true_and, Bool.and_false, Bool.false_and, Nat.reduceAdd, Nat.zero_add, Nat.add_zero, Nat.reduceEqDiff, if_true, if_false, reduceIte]))
    | (show AW _ _ _ _ _ _ _ _; first | refine aw_region ?_ | (refine aw_seqk ?_; intro K hK) | refine aw_block ?_ | (apply aw_cond_t; exact rfl; exact (by assumption)) | (apply aw_cond_f; exact rfl; exact (by assumption)) | refine aw_exit ?_)
    | refine thn_n ?_
    | (refine hK _ _ _ ?_; clear hK K)
    | refine thn_e ?_
    | refine inb_same ?_
    | (clear hK K; refine hK _ _ _ ?_; clear hK K))); all_goals (repeat (clear hK K)))
            refine sq_sub (canon1 (O := [(0, _), (1, _), (2, _), (3, _), (4, _)]) (b1 := 5) (L1 := niT (A)) ⟨rfl, rfl, rfl, rfl, rfl, trivial⟩ (by repeat (first | exact NstIn.here' | refine NstIn.cons (by omega) ?_ | refine NstIn.del (by omega) ?_))) ?_
            simp only [List.cons_append, List.nil_append]
            have hbr : _ := nst_five (B0 := ⟨109, 3, false, [srR s5]⟩) (B1 := ⟨50, 2, false, [[.v (.slice none 0 0), .v (.slice none 0 0)]]⟩) (B2 := ⟨50, 2, false, [[.sl 3 0 r, .sl 4 0 r]]⟩) (B3 := ⟨23, 1, false, nbL dd⟩) (B4 := ⟨23, 1, false, outR 5 (List.replicate r r)⟩) (bs := niT (A)) 0 _ (niT_at (by omega))
            ((repeat' (first
    | (show SQ _ _ _ _ _ _ _ _; first | (apply q_ixl; exact rfl; exact rfl; exact rfl; exact (ty rfl); exact rfl; exact (by assumption); exact rfl; exact (by first | omega | (simp; done) | (simp; omega)); exact (by first | omega | (simp; done) | (simp; omega)))))); all_goals (repeat (clear hK K)))
            refine q_store rfl rfl (ty rfl) hbr hrr rfl rfl rfl ?_
            have g5 := k5.wr (i := 0) (by omega) 0 1
            have hAl2 := g5.1
            have hNl2 := niT_len (wrA A 0 0 1)
            refine sq_sub (canon1 (O := [(0, _), (1, _), (2, _), (3, _), (4, _)]) (b1 := 5) (L1 := niT (wrA A 0 0 1)) (subE_put ⟨rfl, rfl, rfl, rfl, rfl, trivial⟩ (by simp)) (NstIn.put (i := 0) nst_five (by omega) rfl)) ?_
            simp only [List.cons_append, List.nil_append]
            ((repeat' (first
    | (show SQ _ _ _ _ _ _ _ _; first | apply sq_nil)
    | (show SQ _ _ _ _ _ _ _ _; (first | (apply q_ldap; exact rfl; exact rfl; exact (ty rfl); exact rfl; exact rfl; exact (by first | rfl | assumption | ((try simp only [Nat.zero_add]); refine List.getElem?_set_self ?_; (try simp only [List.length_set]); assumption)); exact rfl)); (try simp only [put, rowsOf, plR, List.all_cons, selE, ovr, setH, del, cellsA, splice, isV, List.nil_append, List.cons_append, List.map_cons, List.map_nil, List.length_cons, List.length_nil, List.set_cons_zero, List.set_cons_succ, List.take_succ_cons, List.take_zero, List.take_nil, List.drop_succ_cons, List.drop_zero, List.drop_nil, List.append_nil, List.all_cons, List.all_nil, Bool.and_true, Bool.true_and, Bool.and_false, Bool.false_and, Nat.reduceAdd, Nat.zero_add, Nat.add_zero, Nat.reduceEqDiff, if_true, if_false, reduceIte]))
    | (show AW _ _ _ _ _ _ _ _; first | refine aw_region ?_ | (refine aw_seqk ?_; intro K hK))
    | refine thn_n ?_
    | (refine hK _ _ _ ?_; clear hK K)
    | refine inb_n ?_)); all_goals (repeat (clear hK K)))
            have hnlz := nbL_len (dd)
            have hnoz := nbL_no (dd)
            refine sq_frzNA 111 (.sl 3 0 r) [(0, _), (1, _), (3, _)] (ls := wrA A 0 0 1) (by rfl) (by unfold niB; rw [(g5).lens]; rfl) (by repeat (first | exact NstIn.here' | refine NstIn.cons (by omega) ?_ | refine NstIn.del (by omega) ?_)) (g5).1.symm ⟨rfl, rfl, rfl, trivial⟩ (by simp) ?_
            ((repeat' (first
    | (show SQ _ _ _ _ _ _ _ _; apply sq_frza (t := 111) 0; exact rfl; exact rfl; exact rfl; exact (by first | rfl | exact all_noOwn_map (fun _ => rfl) | assumption | exact hclo); exact (by first | omega | (simp; done) | (simp; omega)); exact (by first | exact dt_full (by first | omega | (simp; done) | (simp; omega)) | assumption | rfl); (try simp only [put, rowsOf, plR, List.all_cons, selE, ovr, setH, del, cellsA, splice, isV, List.nil_append, List.cons_append, List.map_cons, List.map_nil, List.length_cons, List.length_nil, List.set_cons_zero, List.set_cons_succ, List.take_succ_cons, List.take_zero, List.take_nil, List.drop_succ_cons, List.drop_zero, List.drop_nil, List.append_nil, List.all_cons, List.all_nil, Bool.and_true, Bool.true_and, Bool.and_false, Bool.false_and, Nat.reduceAdd, Nat.zero_add, Nat.add_zero, Nat.reduceEqDiff, if_true, if_false, reduceIte]))
    | (show SQ _ _ _ _ _ _ _ _; first | apply sq_nil)
    | (show SQ _ _ _ _ _ _ _ _; (first | (apply q_store; exact rfl; exact rfl; exact (ty rfl); exact rfl; exact (by first | rfl | assumption | ((try simp only [Nat.zero_add]); refine List.getElem?_set_self ?_; (try simp only [List.length_set]); assumption)); exact rfl; exact rfl; exact rfl)); (try simp only [put, rowsOf, plR, List.all_cons, selE, ovr, setH, del, cellsA, splice, isV, List.nil_append, List.cons_append, List.map_cons, List.map_nil, List.length_cons, List.length_nil, List.set_cons_zero, List.set_cons_succ, List.take_succ_cons, List.take_zero, List.take_nil, List.drop_succ_cons, List.drop_zero, List.drop_nil, List.append_nil, List.all_cons, List.all_nil, Bool.and_true, Bool.true_and, Bool.and_false, Bool.false_and, Nat.reduceAdd, Nat.zero_add, Nat.add_zero, Nat.reduceEqDiff, if_true, if_false, reduceIte]))
    | (show AW _ _ _ _ _ _ _ _; first | refine aw_ret ?_)
    | refine thn_n ?_
    | (refine hK _ _ _ ?_; clear hK K))); all_goals (repeat (clear hK K)))
            exact finc id (.r1 _ _ (.agg _ _ _ _ _ rfl (.inr ⟨_, _, _, _, _, rfl, rfl, rfl, rfl⟩) (ty rfl) rfl (Nat.le_of_ble_eq_true rfl))) rfl (fun _ _ => rfl) ⟨rfl, trivial⟩ rfl
          · have b5 : (p == 1) = false := by simpa using d1
            rw [if_neg d1] at hE
            by_cases d2 : p = 2
            · have b6 : (p == 2) = true := by simpa using d2
              rw [if_pos d2] at hE
              have p7 := fun id => pick_rc id s5 r (ok5.mono (by omega)) (by omega)
              have hb7 := pk_bd s5 r (by omega)
              have ok7 := pk_ok r ok5
              generalize pk s5 (r : Int) = P at *
              obtain ⟨v0, s6⟩ := P
              dsimp only at hE p7 hb7 ok7
              obtain ⟨v, rfl⟩ : ∃ v : Nat, v0 = (v : Int) := ⟨v0.toNat, by omega⟩
              rw [Int.toNat_natCast] at hE
              have a8 := among_rc 0 1000 s6 [-1, 101, 3] (by decide) (ok7.mono (by omega)) (by simp) (by simp)
              have ok8 := am_ok [-1, 101, 3] ok7
              generalize am [-1, 101, 3] s6 = P at *
              obtain ⟨x, s7⟩ := P
              dsimp only at hE a8 ok8
              simp only [nuR, List.map_cons, List.map_nil, List.length_cons, List.length_nil] at a8
              simp only [Prod.mk.injEq] at hE
              obtain ⟨rfl, rfl, rfl⟩ := hE
              have hor := out_at (b := 5) (n := r) (i := v) (by omega)
              have hrr : ((A.getD v []).map inL)[0 + ((0 : Int)).toNat]? = some [.v (.int .i64 ((A.getD v []).getD 0 0))] := row_at (i := 0) (by rw [k5.row (by omega)]; omega)
              have hrl : ((A.getD v []).map inL).length = r := by rw [List.length_map, k5.row (by omega)]
              ((repeat' (first
    | (show SQ _ _ _ _ _ _ _ _; first | apply sq_nil | (apply q_move; exact rfl; exact rfl) | (apply q_assign; exact rfl; exact rfl) | (apply q_eql; exact rfl; exact rfl; exact rfl) | (apply q_lss; exact rfl; exact rfl; exact rfl))
    | (show SQ _ _ _ _ _ _ _ _; (first | (apply q_callC; exact rfl; exact rfl; exact rfl; exact p6 0 _; (focus ((repeat (first | exact trivial | refine ⟨by first | exact rfl | assumption, ?_⟩)); done)); skip) | (apply q_callC; exact rfl; exact rfl; exact rfl; exact p7 0 _; (focus ((repeat (first | exact trivial | refine ⟨by first | exact rfl | assumption, ?_⟩)); done)); skip)); (try simp only [put, rowsOf, plR, List.all_cons, selE, ovr, setH, del, cellsA, splice, isV, List.nil_append, List.cons_append, List.map_cons, List.map_nil, List.length_cons, List.length_nil, List.set_cons_zero, List.set_cons_succ, List.take_succ_cons, List.take_zero, List.take_nil, List.drop_succ_cons, List.drop_zero, List.drop_nil, List.append_nil, List.all_cons, List.all_nil, Bool.and_true, Bool.true_and, Bool.and_false, Bool.false_and, Nat.reduceAdd, Nat.zero_add, Nat.add_zero, Nat.reduceEqDiff, if_true, if_false, reduceIte]))
    | (show AW _ _ _ _ _ _ _ _; first | refine aw_region ?_ | (refine aw_seqk ?_; intro K hK) | refine aw_block ?_ | (apply aw_cond_t; exact rfl; exact (by assumption)) | (apply aw_cond_f; exact rfl; exact (by assumption)) | refine aw_exit ?_)
    | refine thn_n ?_
    | (refine hK _ _ _ ?_; clear hK K)
    | refine thn_e ?_
    | refine inb_same ?_
    | (clear hK K; refine hK _ _ _ ?_; clear hK K))); all_goals (repeat (clear hK K)))
              
              ((repeat' (first
    | (show DE _ _ _ _ _ _ _ _ _ _ _ _; first | (apply e_rdi; exact rfl; exact rfl; exact rfl; exact (ty rfl); exact rfl; exact rfl; exact rfl; exact (by first | omega | (simp; done) | (simp; omega)); exact (by first | omega | (simp; done) | (simp; omega)); exact rfl; exact rfl) | (apply e_move; exact rfl; exact rfl; exact rfl) | (apply e_fieldAddr; exact rfl; exact rfl; exact (ty rfl); exact rfl; exact rfl; exact rfl; exact rfl; exact rfl))
    | (show DE _ _ _ _ _ _ _ _ _ _ _ _; (first | (apply e_rd1; exact rfl; exact rfl; exact (ty rfl); exact rfl; exact rfl; exact (by first | rfl | assumption | ((try simp only [Nat.zero_add]); refine List.getElem?_set_self ?_; (try simp only [List.length_set]); assumption)); exact rfl; exact rfl; exact rfl) | (apply e_buildn; exact rfl; exact (ty rfl); exact rfl; exact rfl; exact rfl; exact rfl; exact rfl; exact rfl; exact rfl; exact rfl) | (apply e_callC; exact rfl; exact rfl; exact rfl; exact a8 _; (focus ((repeat (first | exact trivial | refine ⟨by first | exact rfl | assumption, ?_⟩)); done)); exact rfl; skip)); (try simp only [put, rowsOf, plR, List.all_cons, selE, ovr, setH, del, cellsA, splice, isV, List.nil_append, List.cons_append, List.map_cons, List.map_nil, List.length_cons, List.length_nil, List.set_cons_zero, List.set_cons_succ, List.take_succ_cons, List.take_zero, List.take_nil, List.drop_succ_cons, List.drop_zero, List.drop_nil, List.append_nil, List.all_cons, List.all_nil, Bool.and_true, Bool.true_and, Bool.and_false, Bool.false_and, Nat.reduceAdd, Nat.zero_add, Nat.add_zero, Nat.reduceEqDiff, if_true, if_false, reduceIte]))
    | (show AW _ _ _ _ _ _ _ _; first | refine aw_drawE (id := 32) [0, 1, 0, 7, 15, 0, 0, 96, 255, 511] [0, 0, 0, 0, 0, 0, 1, 2, 1, 2, 1, 2, 3, 4, 4, 4] mixed (by kernel_rfl) ?_))); all_goals (repeat (clear hK K)))
              refine e_ixl rfl rfl rfl (ty rfl) rfl ((selE_far _ (by simp only [List.forall_mem_cons]; refine ⟨⟨by omega, by omega, by simp⟩, ⟨by omega, by simp⟩, by simp⟩)).trans (((by repeat (first | exact NstIn.here' | refine NstIn.cons (by omega) ?_ | refine NstIn.del (by omega) ?_)) : NstIn _ 5 (niT A)) v _ (niT_at (by omega)))) rfl (by omega) (by omega) rfl ?_
              refine e_store rfl rfl (ty rfl) ((selE_far _ (by simp only [List.forall_mem_cons]; refine ⟨⟨by omega, by omega, by simp⟩, ⟨by omega, by simp⟩, by simp⟩)).trans (((by repeat (first | exact NstIn.here' | refine NstIn.cons (by omega) ?_ | refine NstIn.del (by omega) ?_)) : NstIn _ 5 (niT A)) v _ (niT_at (by omega)))) hrr rfl rfl rfl rfl ?_
              refine dr_nil (show effR _ _ _ _ [(1, 2), (3, 4), (4, 4)] from ⟨effQ_far (by simp only [List.forall_mem_cons]; refine ⟨⟨by omega, by simp⟩, ⟨by omega, by omega, by simp⟩, ⟨by omega, by simp⟩, by simp⟩), effQ_far (by simp only [List.forall_mem_cons]; refine ⟨⟨by omega, by simp⟩, ⟨by omega, by omega, by simp⟩, ⟨by omega, by simp⟩, by simp⟩), effQ_far (by simp only [List.forall_mem_cons]; refine ⟨⟨by omega, by simp⟩, ⟨by omega, by omega, by simp⟩, ⟨by omega, by simp⟩, by simp⟩), trivial⟩) ?_
              refine inb_n ?_
              refine thn_n ?_
              (refine hK _ _ _ ?_; clear hK K)
              simp only [selE, ovr]
              have g5 := k5.wr (i := v) (by omega) 0 x
              have hAl2 := g5.1
              have hNl2 := niT_len (wrA A v 0 x)
              refine aw_sub (canon1 (O := [(0, _), (1, _), (2, _), (3, _), (4, _)]) (b1 := 5) (L1 := niT (wrA A v 0 x)) (subE_put ⟨rfl, rfl, rfl, rfl, rfl, trivial⟩ (by simp; omega)) (NstIn.put (by repeat (first | exact NstIn.here' | refine NstIn.cons (by omega) ?_ | refine NstIn.del (by omega) ?_)) (by omega) rfl)) ?_
              simp only [List.cons_append, List.nil_append]
              ((repeat' (first
    | (show SQ _ _ _ _ _ _ _ _; (first | (apply q_ldap; exact rfl; exact rfl; exact (ty rfl); exact rfl; exact rfl; exact (by first | rfl | assumption | ((try simp only [Nat.zero_add]); refine List.getElem?_set_self ?_; (try simp only [List.length_set]); assumption)); exact rfl)); (try simp only [put, rowsOf, plR, List.all_cons, selE, ovr, setH, del, cellsA, splice, isV, List.nil_append, List.cons_append, List.map_cons, List.map_nil, List.length_cons, List.length_nil, List.set_cons_zero, List.set_cons_succ, List.take_succ_cons, List.take_zero, List.take_nil, List.drop_succ_cons, List.drop_zero, List.drop_nil, List.append_nil, List.all_cons, List.all_nil, Bool.and_true, Bool.true_and, Bool.and_false, Bool.false_and, Nat.reduceAdd, Nat.zero_add, Nat.add_zero, Nat.reduceEqDiff, if_true, if_false, reduceIte]))
    | (show AW _ _ _ _ _ _ _ _; first | refine aw_region ?_ | (refine aw_seqk ?_; intro K hK)))); all_goals (repeat (clear hK K)))
              have hnlz := nbL_len (dd)
              have hnoz := nbL_no (dd)
              refine sq_frzNA 111 (.sl 3 0 r) [(0, _), (1, _), (3, _)] (ls := wrA A v 0 x) (by rfl) (by unfold niB; rw [(g5).lens]; rfl) (by repeat (first | exact NstIn.here' | refine NstIn.cons (by omega) ?_ | refine NstIn.del (by omega) ?_)) (g5).1.symm ⟨rfl, rfl, rfl, trivial⟩ (by simp) ?_
              ((repeat' (first
    | (show SQ _ _ _ _ _ _ _ _; apply sq_frza (t := 111) 0; exact rfl; exact rfl; exact rfl; exact (by first | rfl | exact all_noOwn_map (fun _ => rfl) | assumption | exact hclo); exact (by first | omega | (simp; done) | (simp; omega)); exact (by first | exact dt_full (by first | omega | (simp; done) | (simp; omega)) | assumption | rfl); (try simp only [put, rowsOf, plR, List.all_cons, selE, ovr, setH, del, cellsA, splice, isV, List.nil_append, List.cons_append, List.map_cons, List.map_nil, List.length_cons, List.length_nil, List.set_cons_zero, List.set_cons_succ, List.take_succ_cons, List.take_zero, List.take_nil, List.drop_succ_cons, List.drop_zero, List.drop_nil, List.append_nil, List.all_cons, List.all_nil, Bool.and_true, Bool.true_and, Bool.and_false, Bool.false_and, Nat.reduceAdd, Nat.zero_add, Nat.add_zero, Nat.reduceEqDiff, if_true, if_false, reduceIte]))
    | (show SQ _ _ _ _ _ _ _ _; first | apply sq_nil)
    | (show SQ _ _ _ _ _ _ _ _; (first | (apply q_store; exact rfl; exact rfl; exact (ty rfl); exact rfl; exact (by first | rfl | assumption | ((try simp only [Nat.zero_add]); refine List.getElem?_set_self ?_; (try simp only [List.length_set]); assumption)); exact rfl; exact rfl; exact rfl)); (try simp only [put, rowsOf, plR, List.all_cons, selE, ovr, setH, del, cellsA, splice, isV, List.nil_append, List.cons_append, List.map_cons, List.map_nil, List.length_cons, List.length_nil, List.set_cons_zero, List.set_cons_succ, List.take_succ_cons, List.take_zero, List.take_nil, List.drop_succ_cons, List.drop_zero, List.drop_nil, List.append_nil, List.all_cons, List.all_nil, Bool.and_true, Bool.true_and, Bool.and_false, Bool.false_and, Nat.reduceAdd, Nat.zero_add, Nat.add_zero, Nat.reduceEqDiff, if_true, if_false, reduceIte]))
    | (show AW _ _ _ _ _ _ _ _; first | refine aw_ret ?_)
    | refine thn_n ?_
    | (refine hK _ _ _ ?_; clear hK K))); all_goals (repeat (clear hK K)))
              exact finc id (.r1 _ _ (.agg _ _ _ _ _ rfl (.inr ⟨_, _, _, _, _, rfl, rfl, rfl, rfl⟩) (ty rfl) rfl (Nat.le_of_ble_eq_true rfl))) rfl (fun _ _ => rfl) ⟨rfl, trivial⟩ rfl
            · have b6 : (p == 2) = false := by simpa using d2
              rw [if_neg d2] at hE
              simp only [Prod.mk.injEq] at hE
              obtain ⟨rfl, rfl, rfl⟩ := hE
              ((repeat' (first
    | (show SQ _ _ _ _ _ _ _ _; first | apply sq_nil | (apply q_move; exact rfl; exact rfl) | (apply q_assign; exact rfl; exact rfl) | (apply q_eql; exact rfl; exact rfl; exact rfl) | (apply q_lss; exact rfl; exact rfl; exact rfl))
    | (show SQ _ _ _ _ _ _ _ _; (first | (apply q_ldap; exact rfl; exact rfl; exact (ty rfl); exact rfl; exact rfl; exact (by first | rfl | assumption | ((try simp only [Nat.zero_add]); refine List.getElem?_set_self ?_; (try simp only [List.length_set]); assumption)); exact rfl) | (apply q_callC; exact rfl; exact rfl; exact rfl; exact p6 0 _; (focus ((repeat (first | exact trivial | refine ⟨by first | exact rfl | assumption, ?_⟩)); done)); skip)); (try simp only [put, rowsOf, plR, List.all_cons, selE, ovr, setH, del, cellsA, splice, isV, List.nil_append, List.cons_append, List.map_cons, List.map_nil, List.length_cons, List.length_nil, List.set_cons_zero, List.set_cons_succ, List.take_succ_cons, List.take_zero, List.take_nil, List.drop_succ_cons, List.drop_zero, List.drop_nil, List.append_nil, List.all_cons, List.all_nil, Bool.and_true, Bool.true_and, Bool.and_false, Bool.false_and, Nat.reduceAdd, Nat.zero_add, Nat.add_zero, Nat.reduceEqDiff, if_true, if_false, reduceIte]))
    | (show AW _ _ _ _ _ _ _ _; first | refine aw_region ?_ | (refine aw_seqk ?_; intro K hK) | refine aw_block ?_ | (apply aw_cond_f; exact rfl; exact (by assumption)) | refine aw_exit ?_ | refine aw_skip ?_)
    | refine thn_n ?_
    | (refine hK _ _ _ ?_; clear hK K)
    | refine thn_e ?_
    | refine inb_same ?_
    | refine inb_n ?_
    | (clear hK K; refine hK _ _ _ ?_; clear hK K))); all_goals (repeat (clear hK K)))
              have hnlz := nbL_len (dd)
              have hnoz := nbL_no (dd)
              refine sq_frzNA 111 (.sl 3 0 r) [(0, _), (1, _), (3, _)] (ls := A) (by rfl) (by unfold niB; rw [k5.lens]; rfl) (by repeat (first | exact NstIn.here' | refine NstIn.cons (by omega) ?_ | refine NstIn.del (by omega) ?_)) k5.1.symm ⟨rfl, rfl, rfl, trivial⟩ (by simp) ?_
              ((repeat' (first
    | (show SQ _ _ _ _ _ _ _ _; apply sq_frza (t := 111) 0; exact rfl; exact rfl; exact rfl; exact (by first | rfl | exact all_noOwn_map (fun _ => rfl) | assumption | exact hclo); exact (by first | omega | (simp; done) | (simp; omega)); exact (by first | exact dt_full (by first | omega | (simp; done) | (simp; omega)) | assumption | rfl); (try simp only [put, rowsOf, plR, List.all_cons, selE, ovr, setH, del, cellsA, splice, isV, List.nil_append, List.cons_append, List.map_cons, List.map_nil, List.length_cons, List.length_nil, List.set_cons_zero, List.set_cons_succ, List.take_succ_cons, List.take_zero, List.take_nil, List.drop_succ_cons, List.drop_zero, List.drop_nil, List.append_nil, List.all_cons, List.all_nil, Bool.and_true, Bool.true_and, Bool.and_false, Bool.false_and, Nat.reduceAdd, Nat.zero_add, Nat.add_zero, Nat.reduceEqDiff, if_true, if_false, reduceIte]))
    | (show SQ _ _ _ _ _ _ _ _; first | apply sq_nil)
    | (show SQ _ _ _ _ _ _ _ _; (first | (apply q_store; exact rfl; exact rfl; exact (ty rfl); exact rfl; exact (by first | rfl | assumption | ((try simp only [Nat.zero_add]); refine List.getElem?_set_self ?_; (try simp only [List.length_set]); assumption)); exact rfl; exact rfl; exact rfl)); (try simp only [put, rowsOf, plR, List.all_cons, selE, ovr, setH, del, cellsA, splice, isV, List.nil_append, List.cons_append, List.map_cons, List.map_nil, List.length_cons, List.length_nil, List.set_cons_zero, List.set_cons_succ, List.take_succ_cons, List.take_zero, List.take_nil, List.drop_succ_cons, List.drop_zero, List.drop_nil, List.append_nil, List.all_cons, List.all_nil, Bool.and_true, Bool.true_and, Bool.and_false, Bool.false_and, Nat.reduceAdd, Nat.zero_add, Nat.add_zero, Nat.reduceEqDiff, if_true, if_false, reduceIte]))
    | (show AW _ _ _ _ _ _ _ _; first | refine aw_ret ?_)
    | refine thn_n ?_
    | (refine hK _ _ _ ?_; clear hK K))); all_goals (repeat (clear hK K)))
              exact finc id (.r1 _ _ (.agg _ _ _ _ _ rfl (.inr ⟨_, _, _, _, _, rfl, rfl, rfl, rfl⟩) (ty rfl) rfl (Nat.le_of_ble_eq_true rfl))) rfl (fun _ _ => rfl) ⟨rfl, trivial⟩ rfl
end Go.Proofs.Yteknfaldpajlpaa.Nb

namespace Go.Proofs.Yteknfaldpajlpaa.Nb
open Go Go.RowKit Go.Proofs.Yteknfaldpajlpaa.Aw Go.Proofs.Yteknfaldpajlpaa.In Go.Proofs.Yteknfaldpajlpaa.Il Go.Proofs.Yteknfaldpajlpaa.Sr
set_option linter.unusedSimpArgs false
set_option linter.unusedVariables false
set_option linter.unusedSectionVars false
attribute [local irreducible] AW SQ Step RO RC DE Thn InB
theorem prE_ok {n : Nat} {dd : List (List Int)} {z : Sr × List (List Int)} {K : Int} (hd : dd.length = n) (hd2 : ∀ d ∈ dd, d.length ≤ 100) (hz : z.1.ok K) (hs : Sq n z.2) (hn : 1 ≤ n) :
    (prE n dd z).1.ok (K + 100) ∧ (prE n dd z).2.1.length = n ∧ (∀ d ∈ (prE n dd z).2.1, d.length ≤ 100) ∧ Sq n (prE n dd z).2.2 := by
  have ok5 := pk_ok 20 hz
  have hb7 := pk_bd (pk z.1 20).2 n (by omega)
  have ok7 := pk_ok n ok5
  have ok8 := am_ok [-1, 101, 3] ok7
  unfold prE
  split
  · refine ⟨ok5.mono (by omega), by rw [List.length_set]; exact hd, fun d h => ?_, hs⟩
    rcases List.mem_or_eq_of_mem_set h with h | rfl
    · exact hd2 d h
    · simp
  · split
    · exact ⟨ok5.mono (by omega), hd, hd2, hs.wr (by omega) _ _⟩
    · split
      · exact ⟨ok8.mono (by omega), hd, hd2, hs.wr (by omega) _ _⟩
      · exact ⟨ok5.mono (by omega), hd, hd2, hs⟩
theorem l19DrawProblem_ex (s : Sr) (k : Int) (h : s.ok k) (hk : k ≤ 1000) : ∃ ds ap s', Pd s k ds ap s' := by
  have hb := pk_bd s 6 (by omega)
  have ok1 := pk_ok 12 (pk_ok 6 h)
  have key : ∀ (n : Nat) (s2 : Sr), 1 ≤ n → n ≤ 25 → s2.ok (k + 10) → ∃ s' ds ap, prE n (domsF s2 n).2 (apF ((domsF s2 n).1, List.replicate n (List.replicate n 0)) n) = (s', ds, ap) ∧ s'.ok (k + 5000) ∧ ds.length = n ∧ (∀ d ∈ ds, d.length ≤ 100) ∧ Sq n ap := by
    intro n s2 h1 h2 hs
    obtain ⟨g1, g2, g3⟩ := domsF_ok hs n
    obtain ⟨f1, f2⟩ := apF_ok (n := n) (z := ((domsF s2 n).1, List.replicate n (List.replicate n 0))) g1 (Sq.zero n) h2 n (Nat.le_refl _)
    have := prE_ok g2 g3 f1 f2 h1
    generalize prE n (domsF s2 n).2 (apF ((domsF s2 n).1, List.replicate n (List.replicate n 0)) n) = E at *
    obtain ⟨s', ds, ap⟩ := E
    obtain ⟨e1, e2, e3, e4⟩ := this
    dsimp only at e1 e2 e3 e4
    exact ⟨s', ds, ap, rfl, e1.mono (by omega), e2, e3, e4⟩
  by_cases hN : ((pk (pk s 6).2 12).1 == 0) = true
  · have hv : ∃ n : Nat, 1 ≤ n ∧ n ≤ 25 ∧ (am [12, 24, 25] (pk (pk s 6).2 12).2).1 = (n : Int) := by
      have hb2 := pk_bd (pk (pk s 6).2 12).2 3 (by omega)
      have e : (am [12, 24, 25] (pk (pk s 6).2 12).2).1 = [(12 : Int), 24, 25].getD (pk (pk (pk s 6).2 12).2 3).1.toNat 0 := rfl
      obtain ⟨q, hq⟩ : ∃ q : Nat, (pk (pk (pk s 6).2 12).2 3).1 = (q : Int) := ⟨_, (Int.toNat_of_nonneg hb2.1).symm⟩
      rw [e, hq, Int.toNat_natCast]
      have hq3 : q < 3 := by omega
      match q, hq3 with
      | 0, _ => exact ⟨12, by omega, by omega, rfl⟩
      | 1, _ => exact ⟨24, by omega, by omega, rfl⟩
      | 2, _ => exact ⟨25, by omega, by omega, rfl⟩
    obtain ⟨n, n1, n2, hn⟩ := hv
    obtain ⟨s', ds, ap, hE, e1, e2, e3, e4⟩ := key n _ n1 n2 ((am_ok [12, 24, 25] ok1).mono (by omega))
    refine ⟨ds, ap, s', by omega, by omega, e3, by rw [e4.1]; exact n2, fun d hd => by rw [e4.2 d hd]; omega, e1, fun j id => prob2_rc h hk ds ap s' j id n n1 n2 hN hn hE⟩
  · have hN2 : ((pk (pk s 6).2 12).1 == 0) = false := by simpa using hN
    obtain ⟨n, hn⟩ : ∃ n : Nat, (pk s 6).1 + 1 = (n : Int) := ⟨((pk s 6).1 + 1).toNat, (Int.toNat_of_nonneg (by omega)).symm⟩
    have n1 : 1 ≤ n := by omega
    have n2 : n ≤ 25 := by omega
    obtain ⟨s', ds, ap, hE, e1, e2, e3, e4⟩ := key n _ n1 n2 (ok1.mono (by omega))
    refine ⟨ds, ap, s', by omega, by omega, e3, by rw [e4.1]; exact n2, fun d hd => by rw [e4.2 d hd]; omega, e1, fun j id => prob_rc h hk ds ap s' j id n n1 n2 hN2 (by rw [IntWalk.i64_in _ (by omega)]; exact hn) hE⟩
theorem closeFnRepair (v : Value) (w : World) (h : Fr.IsBytes w v) : Calls Try.prog 7 #[v] w fun r w' => r = .returned (.bool true) ∧ Below w.heap.size w w' := by
  obtain ⟨cs, hv, hc, hn⟩ := h
  exact RO.calls (k := 0) (lawFnRepair_of l19DrawProblem_ex cs hc hn 0) (K := fun k => k < w.heap.size) (fun _ h => h) (VRs.cons hv VRs.nil)
end Go.Proofs.Yteknfaldpajlpaa.Nb
