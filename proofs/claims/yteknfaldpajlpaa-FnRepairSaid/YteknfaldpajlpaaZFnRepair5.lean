/-
  What the law FnRepair rests on, part 5.
-/
import Derived.Test.YteknfaldpajlpaaZFnRepair4
namespace Go.Proofs.Yteknfaldpajlpaa.Nb
open Go Go.RowKit Go.Proofs.Yteknfaldpajlpaa.Aw Go.Proofs.Yteknfaldpajlpaa.In Go.Proofs.Yteknfaldpajlpaa.Il
set_option linter.unusedSimpArgs false
set_option linter.unusedVariables false
set_option linter.unusedSectionVars false
attribute [local irreducible] AW SQ Step RO RC DE Thn InB
theorem finc_n {P : Program} {rs : List ResultVar} {g n : Nat} {u v : AV} {E : Ef} {T : Tp} {H : Hp} (ρ : Nat → Nat) (hr : ResV P T H rs u) (e : u = renA ρ v) (hp : ∀ i, i < g → ρ i = i) (hl : liveE H ρ E) (hi : injB ρ (E.filterMap fun p => p.2.map fun _ => p.1) = true) :
    Finc P rs g v E .normal T H n := finc (n := n) ρ hr e hp hl hi
abbrev Vr := Int × Nat × Nat × List Int
def loF (nxt : List Int → Int → Vr) (made : List Int) : List Int → Int → List Int → Vr
  | [], b, bf => (b, 0, made.length, bf)
  | c :: cs, b, bf =>
    if decide (spV (made ++ [c]) ≤ 999) = true then
      (if (nxt (made ++ [c]) b).1 < 0 ∨ 0 < (nxt (made ++ [c]) b).2.1 then nxt (made ++ [c]) b else loF nxt made cs (nxt (made ++ [c]) b).1 (nxt (made ++ [c]) b).2.2.2)
    else loF nxt made cs b (made ++ [c])
def viF (ds ap : List (List Int)) : Nat → List Int → Int → Vr
  | 0, made, b => if b - 1 < 0 then (b - 1, 0, made.length, made) else (b - 1, 1, made.length, made)
  | r + 1, made, b => if b - 1 < 0 then (b - 1, 0, made.length, made) else loF (viF ds ap r) made (chL ap made (ds.getD made.length [])) (b - 1) made
structure Vk (ds ap : List (List Int)) (made : List Int) (b : Int) (q : Vr) : Prop where
  bud : q.1 ≤ b
  lo : -1 ≤ q.1
  len : q.2.2.1 ≤ q.2.2.2.length
  one : q.2.1 ≤ 1
  non : q.2.1 = 0 → 0 ≤ q.1 → q.2.2.1 = made.length
  pre : q.2.1 = 0 → q.2.2.2.take made.length = made
  ok : q.2.1 = 1 → 0 ≤ q.1 ∧ q.2.2.1 = ds.length ∧ q.2.2.2.length = ds.length ∧ Asg ds ap q.2.2.2
theorem loF_k {ds ap : List (List Int)} {nxt : List Int → Int → Vr} {made : List Int} (hn : ∀ c b, 0 ≤ b → ((ds.getD made.length []).any fun y => y == c) = true → fitB ap made c = true → Vk ds ap (made ++ [c]) b (nxt (made ++ [c]) b)) :
    ∀ (cs : List Int) (b : Int) (bf : List Int), 0 ≤ b → bf.take made.length = made → (∀ c ∈ cs, ((ds.getD made.length []).any fun y => y == c) = true ∧ fitB ap made c = true) → Vk ds ap made b (loF nxt made cs b bf)
  | [], b, bf, h0, hp, hc => ⟨Int.le_refl _, by show -1 ≤ b; omega, by show made.length ≤ bf.length; have := congrArg List.length hp; rw [List.length_take] at this; omega, by show 0 ≤ 1; omega, fun _ _ => rfl, fun _ => hp, fun h => by cases h⟩
  | c :: cs, b, bf, h0, hp, hc => by
    obtain ⟨h1, h2⟩ := hc c List.mem_cons_self
    have hk := hn c b h0 h1 h2
    unfold loF
    by_cases c1 : decide (spV (made ++ [c]) ≤ 999) = true
    · rw [if_pos c1]
      have hpre : (nxt (made ++ [c]) b).2.1 = 0 → (nxt (made ++ [c]) b).2.2.2.take made.length = made := fun e => by
        have := congrArg (List.take made.length) (hk.pre e)
        rw [List.take_take, Nat.min_eq_left (by rw [List.length_append]; omega), List.take_append_of_le_length (Nat.le_refl _), List.take_length] at this
        exact this
      by_cases c2 : (nxt (made ++ [c]) b).1 < 0 ∨ 0 < (nxt (made ++ [c]) b).2.1
      · rw [if_pos c2]
        exact ⟨hk.bud, hk.lo, hk.len, hk.one, fun e e2 => by omega, hpre, hk.ok⟩
      · rw [if_neg c2]
        have g := loF_k hn cs (nxt (made ++ [c]) b).1 (nxt (made ++ [c]) b).2.2.2 (by omega) (hpre (by omega)) fun x hx => hc x (List.mem_cons_of_mem _ hx)
        exact ⟨Int.le_trans g.bud hk.bud, g.lo, g.len, g.one, g.non, g.pre, g.ok⟩
    · rw [if_neg c1]
      exact loF_k hn cs b (made ++ [c]) h0 (by rw [List.take_append_of_le_length (Nat.le_refl _), List.take_length]) fun x hx => hc x (List.mem_cons_of_mem _ hx)
theorem chL_mem {ds ap : List (List Int)} {made : List Int} : ∀ c ∈ chL ap made (ds.getD made.length []), ((ds.getD made.length []).any fun y => y == c) = true ∧ fitB ap made c = true := fun c hc => by
  obtain ⟨h1, h2⟩ := List.mem_filter.1 hc
  exact ⟨List.any_eq_true.2 ⟨c, h1, by simp⟩, h2⟩
theorem viF_k {ds ap : List (List Int)} : ∀ (r : Nat) (made : List Int) (b : Int), made.length + r = ds.length → Asg ds ap made → 0 ≤ b → Vk ds ap made b (viF ds ap r made b)
  | 0, made, b, hr, ha, h0 => by
    unfold viF
    by_cases c : b - 1 < 0
    · rw [if_pos c]; exact ⟨by show b - 1 ≤ b; omega, by show -1 ≤ b - 1; omega, Nat.le_refl _, by show 0 ≤ 1; omega, fun _ h => rfl, fun _ => List.take_length, fun h => by cases h⟩
    · rw [if_neg c]; exact ⟨by show b - 1 ≤ b; omega, by show -1 ≤ b - 1; omega, Nat.le_refl _, by show 1 ≤ 1; omega, fun h => (by cases h), fun h => (by cases h), fun _ => ⟨by show 0 ≤ b - 1; omega, by show made.length = _; omega, by show made.length = _; omega, ha⟩⟩
  | r + 1, made, b, hr, ha, h0 => by
    unfold viF
    by_cases c : b - 1 < 0
    · rw [if_pos c]; exact ⟨by show b - 1 ≤ b; omega, by show -1 ≤ b - 1; omega, Nat.le_refl _, by show 0 ≤ 1; omega, fun _ h => rfl, fun _ => List.take_length, fun h => by cases h⟩
    · rw [if_neg c]
      have g := loF_k (ds := ds) (ap := ap) (nxt := viF ds ap r) (made := made) (fun c b h0 h1 h2 => viF_k r (made ++ [c]) b (by rw [List.length_append, List.length_singleton]; omega) (ha.snoc h1 h2) h0) (chL ap made (ds.getD made.length [])) (b - 1) made (by omega) List.take_length chL_mem
      exact ⟨by have := g.bud; omega, g.lo, g.len, g.one, g.non, g.pre, g.ok⟩
def asR (ds ap : List (List Int)) (b : Int) (id len cnt : Nat) : List (List AV) := [[.dsl 1 (nbL ds), .dsl 1 (nbL ap), .v (.int .i64 b), .v (.bool true), .v (.int .i64 999), .sl id 0 len, .v (.int .i64 (cnt : Nat))]]
theorem visit_out (ds ap : List (List Int)) (r : Nat) (made : List Int) (bu : Int) (h0 : 0 ≤ bu) (h1 : bu ≤ 20000) (c0 : bu - 1 < 0) (b c : Nat) (hbc : b ≠ c) (k : Nat) :
    RC Try.prog 100 [.ptr b 0 0] [(b, ⟨99, 7, false, asR ds ap bu c made.length 0⟩), (c, ⟨2, 1, true, made.map inL⟩)] k (.tup [])
      [(b, some ⟨99, 7, false, asR ds ap (viF ds ap r made bu).1 k (viF ds ap r made bu).2.2.1 (viF ds ap r made bu).2.1⟩), (c, none), (k, some ⟨2, 1, true, (viF ds ap r made bu).2.2.2.map inL⟩)] (k + 1) := by
  have hml : (made.map inL).length = made.length := List.length_map _
  have hwb : IntKind.i64.wrap (bu - 1) = bu - 1 := IntWalk.i64_in _ (by omega)
  have d0 : decide (IntKind.i64.wrap (bu - 1) < 0) = true := by rw [hwb]; simpa using c0
  have e : viF ds ap r made bu = (bu - 1, 0, made.length, made) := by cases r <;> (unfold viF; rw [if_pos c0])
  rw [e, ← hwb]
  unfold asR
  refine RC.ofc [b, c] 1 [.ptr 0 0 0] [(0, ⟨99, 7, false, [[.dsl 1 (nbL ds), .dsl 1 (nbL ap), .v (.int .i64 bu), .v (.bool true), .v (.int .i64 999), .sl 1 0 made.length, .v (.int .i64 ((0 : Nat) : Int))]]⟩), (1, ⟨2, 1, true, made.map inL⟩)] (.tup []) [(0, some ⟨99, 7, false, [[.dsl 1 (nbL ds), .dsl 1 (nbL ap), .v (.int .i64 (IntKind.i64.wrap (bu - 1))), .v (.bool true), .v (.int .i64 999), .sl 2 0 made.length, .v (.int .i64 ((0 : Nat) : Int))]]⟩), (1, none), (2, some ⟨2, 1, true, made.map inL⟩)] Try.func100 Try.ntmps100 rfl (goFn_of Try.func100 rfl (by kernel_rfl)) rfl rfl rfl rfl rfl rfl rfl rfl (by simp_all) rfl ?_
  ((repeat' (first
    | (show SQ _ _ _ _ _ _ _ _; first | apply sq_nil | (apply q_move; exact rfl; exact rfl) | (apply q_fieldAddr; exact rfl; exact rfl; exact (ty rfl); exact rfl; exact rfl; exact rfl; exact rfl) | (apply q_nilc; exact rfl; exact rfl; exact rfl) | (apply q_sub; exact rfl; exact rfl; exact rfl) | (apply q_lss; exact rfl; exact rfl; exact rfl) | (apply q_ld1p; exact rfl; exact rfl; exact (ty rfl); exact rfl; exact rfl; exact (by first | rfl | assumption | ((try simp only [Nat.zero_add]); refine List.getElem?_set_self ?_; (try simp only [List.length_set]); assumption)); exact rfl))
    | (show SQ _ _ _ _ _ _ _ _; (first | (apply q_store; exact rfl; exact rfl; exact (ty rfl); exact rfl; exact (by first | rfl | assumption | ((try simp only [Nat.zero_add]); refine List.getElem?_set_self ?_; (try simp only [List.length_set]); assumption)); exact rfl; exact rfl; exact rfl)); (try simp only [put, rowsOf, plR, List.all_cons, selE, ovr, setH, del, cellsA, splice, isV, List.nil_append, List.cons_append, List.map_cons, List.map_nil, List.length_cons, List.length_nil, List.set_cons_zero, List.set_cons_succ, List.take_succ_cons, List.take_zero, List.take_nil, List.drop_succ_cons, List.drop_zero, List.drop_nil, List.append_nil, List.all_cons, List.all_nil, Bool.and_true, Bool.true_and, Bool.and_false, Bool.false_and, Nat.reduceAdd, Nat.zero_add, Nat.add_zero, Nat.reduceEqDiff, if_true, if_false, reduceIte]))
    | (show AW _ _ _ _ _ _ _ _; first | refine aw_region ?_ | (refine aw_seqk ?_; intro K hK) | (apply aw_cond_t; exact rfl; exact (by assumption)) | refine aw_ret ?_)
    | refine thn_n ?_
    | (refine hK _ _ _ ?_; clear hK K)
    | refine thn_r ?_)); all_goals (repeat (clear hK K)))
  all_goals exact finc (mv 2 1) .r0 rfl (fun z hz => by (try simp at hz); simp [mv]; omega) ⟨rfl, rfl, trivial⟩ rfl
set_option maxHeartbeats 4000000 in
theorem visit_rc (ds ap : List (List Int)) (hS : NbS ds) (hA : NbS ap) (hP : PrF ds ap) : ∀ (r : Nat) (made : List Int) (bu : Int), made.length + r = ds.length → Asg ds ap made → 0 ≤ bu → bu ≤ 20000 → ∀ b c : Nat, b ≠ c → ∀ k,
    RC Try.prog 100 [.ptr b 0 0] [(b, ⟨99, 7, false, asR ds ap bu c made.length 0⟩), (c, ⟨2, 1, true, made.map inL⟩)] k (.tup [])
      [(b, some ⟨99, 7, false, asR ds ap (viF ds ap r made bu).1 k (viF ds ap r made bu).2.2.1 (viF ds ap r made bu).2.1⟩), (c, none), (k, some ⟨2, 1, true, (viF ds ap r made bu).2.2.2.map inL⟩)] (k + 1)
  | 0, made, bu, hr, ha, h0, h1, b, c, hbc, k => by
    by_cases c0 : bu - 1 < 0
    · exact visit_out ds ap 0 made bu h0 h1 c0 b c hbc k
    have hnl := nbL_len ds
    have hml : (made.map inL).length = made.length := List.length_map _
    have hwb : IntKind.i64.wrap (bu - 1) = bu - 1 := IntWalk.i64_in _ (by omega)
    have d0 : decide (IntKind.i64.wrap (bu - 1) < 0) = false := by rw [hwb]; simpa using c0
    have d1 : (((made.length : Nat) : Int) == (((nbL ds).length : Nat) : Int)) = true := by rw [hnl, beq_iff_eq]; omega
    have e : viF ds ap 0 made bu = (bu - 1, 1, made.length, made) := by unfold viF; rw [if_neg c0]
    have hw1 : IntKind.i64.wrap (((0 : Nat) : Int) + 1) = ((1 : Nat) : Int) := by decide
    rw [e, ← hwb]
    unfold asR
    dsimp only
    rw [← hw1]
    refine RC.ofc [b, c] 1 [.ptr 0 0 0] [(0, ⟨99, 7, false, [[.dsl 1 (nbL ds), .dsl 1 (nbL ap), .v (.int .i64 bu), .v (.bool true), .v (.int .i64 999), .sl 1 0 made.length, .v (.int .i64 ((0 : Nat) : Int))]]⟩), (1, ⟨2, 1, true, made.map inL⟩)] (.tup []) [(0, some ⟨99, 7, false, [[.dsl 1 (nbL ds), .dsl 1 (nbL ap), .v (.int .i64 (IntKind.i64.wrap (bu - 1))), .v (.bool true), .v (.int .i64 999), .sl 2 0 made.length, .v (.int .i64 (IntKind.i64.wrap (((0 : Nat) : Int) + 1)))]]⟩), (1, none), (2, some ⟨2, 1, true, made.map inL⟩)] Try.func100 Try.ntmps100 rfl (goFn_of Try.func100 rfl (by kernel_rfl)) rfl rfl rfl rfl rfl rfl rfl rfl (by simp_all) rfl ?_
    ((repeat' (first
    | (show SQ _ _ _ _ _ _ _ _; first | apply sq_nil | (apply q_move; exact rfl; exact rfl) | (apply q_assign; exact rfl; exact rfl) | (apply q_fieldAddr; exact rfl; exact rfl; exact (ty rfl); exact rfl; exact rfl; exact rfl; exact rfl) | (apply q_nilc; exact rfl; exact rfl; exact rfl) | (apply q_lend; exact rfl; exact rfl; exact (ty rfl); exact rfl) | (apply q_lenl; exact rfl; exact rfl; exact (ty rfl); exact rfl) | (apply q_add; exact rfl; exact rfl; exact rfl) | (apply q_sub; exact rfl; exact rfl; exact rfl) | (apply q_eql; exact rfl; exact rfl; exact rfl) | (apply q_lss; exact rfl; exact rfl; exact rfl) | (apply q_ld1p; exact rfl; exact rfl; exact (ty rfl); exact rfl; exact rfl; exact (by first | rfl | assumption | ((try simp only [Nat.zero_add]); refine List.getElem?_set_self ?_; (try simp only [List.length_set]); assumption)); exact rfl))
    | (show SQ _ _ _ _ _ _ _ _; (first | (apply q_store; exact rfl; exact rfl; exact (ty rfl); exact rfl; exact (by first | rfl | assumption | ((try simp only [Nat.zero_add]); refine List.getElem?_set_self ?_; (try simp only [List.length_set]); assumption)); exact rfl; exact rfl; exact rfl)); (try simp only [put, rowsOf, plR, List.all_cons, selE, ovr, setH, del, cellsA, splice, isV, List.nil_append, List.cons_append, List.map_cons, List.map_nil, List.length_cons, List.length_nil, List.set_cons_zero, List.set_cons_succ, List.take_succ_cons, List.take_zero, List.take_nil, List.drop_succ_cons, List.drop_zero, List.drop_nil, List.append_nil, List.all_cons, List.all_nil, Bool.and_true, Bool.true_and, Bool.and_false, Bool.false_and, Nat.reduceAdd, Nat.zero_add, Nat.add_zero, Nat.reduceEqDiff, if_true, if_false, reduceIte]))
    | (show AW _ _ _ _ _ _ _ _; first | refine aw_region ?_ | (refine aw_seqk ?_; intro K hK) | (apply aw_cond_t; exact rfl; exact (by assumption)) | (apply aw_cond_f; exact rfl; exact (by assumption)) | refine aw_ret ?_ | refine aw_skip ?_)
    | refine thn_n ?_
    | (refine hK _ _ _ ?_; clear hK K)
    | refine thn_r ?_)); all_goals (repeat (clear hK K)))
    all_goals exact finc (mv 2 1) .r0 rfl (fun z hz => by (try simp at hz); simp [mv]; omega) ⟨rfl, rfl, trivial⟩ rfl
  | r + 1, made, bu, hr, ha, h0, h1, b, c, hbc, k => by
    by_cases c0 : bu - 1 < 0
    · exact visit_out ds ap (r + 1) made bu h0 h1 c0 b c hbc k
    have ih := visit_rc ds ap hS hA hP r
    have hvk := fun made b => viF_k (ds := ds) (ap := ap) r made b
    have hnl := nbL_len ds
    have hal := nbL_len ap
    have hn := hP.n
    have hml : (made.map inL).length = made.length := List.length_map _
    have hmv : ∀ x ∈ made, 0 ≤ x ∧ x ≤ 999 := fun x hx => by
      obtain ⟨i, hi, rfl⟩ := List.getElem_of_mem hx
      obtain ⟨y, hy, e⟩ := List.any_eq_true.1 (ha i hi).1
      have hid : i < ds.length := by omega
      have hg : ds.getD i [] = ds[i] := by simp [List.getD, hid]
      rw [hg] at hy
      have := (hP.dom _ (List.getElem_mem hid)).2 y hy
      rw [beq_iff_eq] at e
      have e2 : made.getD i 0 = made[i] := by simp [List.getD, hi]
      rw [← e2, ← e]; exact this
    have hwb : IntKind.i64.wrap (bu - 1) = bu - 1 := IntWalk.i64_in _ (by omega)
    have d0 : decide (IntKind.i64.wrap (bu - 1) < 0) = false := by rw [hwb]; simpa using c0
    have d1 : (((made.length : Nat) : Int) == (((nbL ds).length : Nat) : Int)) = false := by rw [hnl, beq_eq_false_iff_ne]; omega
    have e : viF ds ap (r + 1) made bu = loF (viF ds ap r) made (chL ap made (ds.getD made.length [])) (bu - 1) made := by rw [viF, if_neg c0]
    have hC := choices_ro ds ap made hS hA hP (by omega) hmv
    have hch := chL_mem (ds := ds) (ap := ap) (made := made)
    have hcl : (chL ap made (ds.getD made.length [])).length ≤ 32 := by
      have h1 := List.length_filter_le (fun c => fitB ap made c) (ds.getD made.length [])
      have hid : made.length < ds.length := by omega
      have hg : ds.getD made.length [] = ds[made.length] := by simp [List.getD, hid]
      rw [hg] at h1 ⊢
      have := (hP.dom _ (List.getElem_mem hid)).1
      unfold chL; omega
    rw [e]
    generalize hQQ : loF (viF ds ap r) made (chL ap made (ds.getD made.length [])) (bu - 1) made = Q
    rw [← hwb] at hQQ
    generalize chL ap made (ds.getD made.length []) = cs at *
    have hcm : (cs.map inL).length = cs.length := List.length_map _
    generalize viF ds ap r = nxt at *
    unfold asR at *
    refine RC.ofc [b, c] 1 [.ptr 0 0 0] [(0, ⟨99, 7, false, [[.dsl 1 (nbL ds), .dsl 1 (nbL ap), .v (.int .i64 bu), .v (.bool true), .v (.int .i64 999), .sl 1 0 made.length, .v (.int .i64 ((0 : Nat) : Int))]]⟩), (1, ⟨2, 1, true, made.map inL⟩)] (.tup []) [(0, some ⟨99, 7, false, [[.dsl 1 (nbL ds), .dsl 1 (nbL ap), .v (.int .i64 Q.1), .v (.bool true), .v (.int .i64 999), .sl 2 0 Q.2.2.1, .v (.int .i64 (Q.2.1 : Nat))]]⟩), (1, none), (2, some ⟨2, 1, true, Q.2.2.2.map inL⟩)] Try.func100 Try.ntmps100 rfl (goFn_of Try.func100 rfl (by kernel_rfl)) rfl rfl rfl rfl rfl rfl rfl rfl (by simp_all) rfl ?_
    ((repeat' (first
    | (show AW _ _ _ _ _ _ _ _; apply aw_frz (t := 46); exact rfl; exact rfl; exact (by first | rfl | exact all_noOwn_map (fun _ => rfl) | assumption | exact hclo); exact (by first | omega | (simp; done) | (simp; omega)); exact (by first | exact dt_full (by first | omega | (simp; done) | (simp; omega)) | assumption | rfl); (try simp only [put, rowsOf, plR, List.all_cons, selE, ovr, setH, del, cellsA, splice, isV, List.nil_append, List.cons_append, List.map_cons, List.map_nil, List.length_cons, List.length_nil, List.set_cons_zero, List.set_cons_succ, List.take_succ_cons, List.take_zero, List.take_nil, List.drop_succ_cons, List.drop_zero, List.drop_nil, List.append_nil, List.all_cons, List.all_nil, Bool.and_true, Bool.true_and, Bool.and_false, Bool.false_and, Nat.reduceAdd, Nat.zero_add, Nat.add_zero, Nat.reduceEqDiff, if_true, if_false, reduceIte]))
    | (show SQ _ _ _ _ _ _ _ _; first | apply sq_nil | (apply q_move; exact rfl; exact rfl) | (apply q_assign; exact rfl; exact rfl) | (apply q_fieldAddr; exact rfl; exact rfl; exact (ty rfl); exact rfl; exact rfl; exact rfl; exact rfl) | (apply q_nilc; exact rfl; exact rfl; exact rfl) | (apply q_lend; exact rfl; exact rfl; exact (ty rfl); exact rfl) | (apply q_lenl; exact rfl; exact rfl; exact (ty rfl); exact rfl) | (apply q_sub; exact rfl; exact rfl; exact rfl) | (apply q_eql; exact rfl; exact rfl; exact rfl) | (apply q_lss; exact rfl; exact rfl; exact rfl) | (apply q_ld1p; exact rfl; exact rfl; exact (ty rfl); exact rfl; exact rfl; exact (by first | rfl | assumption | ((try simp only [Nat.zero_add]); refine List.getElem?_set_self ?_; (try simp only [List.length_set]); assumption)); exact rfl))
    | (show SQ _ _ _ _ _ _ _ _; (first | (apply q_store; exact rfl; exact rfl; exact (ty rfl); exact rfl; exact (by first | rfl | assumption | ((try simp only [Nat.zero_add]); refine List.getElem?_set_self ?_; (try simp only [List.length_set]); assumption)); exact rfl; exact rfl; exact rfl)); (try simp only [put, rowsOf, plR, List.all_cons, selE, ovr, setH, del, cellsA, splice, isV, List.nil_append, List.cons_append, List.map_cons, List.map_nil, List.length_cons, List.length_nil, List.set_cons_zero, List.set_cons_succ, List.take_succ_cons, List.take_zero, List.take_nil, List.drop_succ_cons, List.drop_zero, List.drop_nil, List.append_nil, List.all_cons, List.all_nil, Bool.and_true, Bool.true_and, Bool.and_false, Bool.false_and, Nat.reduceAdd, Nat.zero_add, Nat.add_zero, Nat.reduceEqDiff, if_true, if_false, reduceIte]))
    | (show DE _ _ _ _ _ _ _ _ _ _ _ _; first | (apply e_move; exact rfl; exact rfl; exact rfl) | (apply e_fieldAddr; exact rfl; exact rfl; exact (ty rfl); exact rfl; exact rfl; exact rfl; exact rfl; exact rfl) | (apply e_nilc; exact rfl; exact rfl; exact rfl; exact rfl) | (apply e_lenl; exact rfl; exact rfl; exact (ty rfl); exact rfl; exact rfl) | (apply e_ld1p; exact rfl; exact rfl; exact (ty rfl); exact rfl; exact rfl; exact (by first | rfl | assumption | ((try simp only [Nat.zero_add]); refine List.getElem?_set_self ?_; (try simp only [List.length_set]); assumption)); exact rfl; exact rfl))
    | (show DE _ _ _ _ _ _ _ _ _ _ _ _; (first | (apply dr_nil; exact trivial) | (apply e_ldap; exact rfl; exact rfl; exact (ty rfl); exact rfl; exact rfl; exact (by first | rfl | assumption | ((try simp only [Nat.zero_add]); refine List.getElem?_set_self ?_; (try simp only [List.length_set]); assumption)); exact rfl; exact rfl) | (apply e_callU; exact rfl; exact rfl; exact rfl; rotate_left; exact hC _; exact rfl; rotate_right; focus ((repeat' (first | exact FzL.nil | exact (by assumption : FzC _) _ | refine FzL.cons ?_ ?_ | exact Fz.of rfl | exact Fz.nil | exact Fz.emp | (apply Fz.fnC; assumption) | (apply Fz.sl2; exact rfl; exact (by first | omega | (simp; done) | (simp; omega)); first | exact rfl | exact dt_full (by first | omega | (simp; done) | (simp; omega)) | assumption) | apply Fz.agg | (apply Fz.ptrL; exact rfl; first | exact rfl | assumption) | apply Fz.fnL)); done))); (try simp only [put, rowsOf, plR, List.all_cons, selE, ovr, setH, del, cellsA, splice, isV, List.nil_append, List.cons_append, List.map_cons, List.map_nil, List.length_cons, List.length_nil, List.set_cons_zero, List.set_cons_succ, List.take_succ_cons, List.take_zero, List.take_nil, List.drop_succ_cons, List.drop_zero, List.drop_nil, List.append_nil, List.all_cons, List.all_nil, Bool.and_true, Bool.true_and, Bool.and_false, Bool.false_and, Nat.reduceAdd, Nat.zero_add, Nat.add_zero, Nat.reduceEqDiff, if_true, if_false, reduceIte]))
    | (show AW _ _ _ _ _ _ _ _; first | refine aw_region ?_ | (refine aw_seqk ?_; intro K hK) | refine aw_block ?_ | (apply aw_cond_f; exact rfl; exact (by assumption)) | refine aw_skip ?_ | refine aw_drawE (id := 5) [0, 1, 3, 7, 0, 16, 48, 112, 0, 511, 1023, 0] [0, 0, 0, 1, 0, 0, 0, 1, 0, 1, 0, 0] mixed (by kernel_rfl) ?_)
    | refine thn_n ?_
    | (refine hK _ _ _ ?_; clear hK K))); all_goals (repeat (clear hK K)))
    refine aw_loop (ρ := mv 2 1) (ι := Nat × Int × List Int) (fun s => ([(48, .v (.int .i64 s.1)), (47, .v (.int .i64 (cs.length : Nat))), (46, .dsl 1 (cs.map inL)), (2, .v (.int .i64 (made.length : Nat))), (0, .ptr 0 0 0)],
        [(0, ⟨99, 7, false, [[.dsl 1 (nbL ds), .dsl 1 (nbL ap), .v (.int .i64 s.2.1), .v (.bool true), .v (.int .i64 999), .sl 2 0 made.length, .v (.int .i64 ((0 : Nat) : Int))]]⟩), (2, ⟨2, 1, true, s.2.2.map inL⟩)], 3))
      (fun s => s.1 ≤ cs.length ∧ 0 ≤ s.2.1 ∧ s.2.1 ≤ 20000 ∧ s.2.2.take made.length = made ∧ loF nxt made (cs.drop s.1) s.2.1 s.2.2 = Q) (fun s => cs.length - s.1) (0, (IntKind.i64.wrap (bu - 1), made)) ⟨Nat.zero_le _, by dsimp only; omega, by dsimp only; omega, List.take_length, by rw [List.drop_zero]; exact hQQ⟩ ⟨by (repeat (refine ⟨by first | exact lk_i rfl rfl | exact lk_d rfl rfl | exact lk_r rfl rfl rfl, ?_⟩)); exact trivial, by (repeat (refine ⟨by first | exact ⟨rfl, rfl, rfl⟩, ?_⟩)); exact trivial, by rfl, by (intro i hi; (try dsimp only); refine ⟨?_, ?_⟩ <;> first | rfl | omega | (simp [mv]; omega))⟩ ?_
    rintro ⟨j, b2, bf⟩ ⟨hj, t0, t1, tp, hg⟩
    dsimp only at hj t0 t1 tp hg
    have htl : made.length ≤ bf.length := by have := congrArg List.length tp; rw [List.length_take] at this; omega
    by_cases c1 : j < cs.length
    · have b1 : decide ((j : Int) < (cs.length : Int)) = true := by simpa using c1
      have hw : IntKind.i64.wrap ((j : Int) + 1) = ((j + 1 : Nat) : Int) := by rw [IntWalk.i64_in _ (by omega)]; omega
      have hrj : (cs.map inL)[((j : Int)).toNat]? = some (inL cs[j]) := by simp [c1]
      rw [inL_eq] at hrj
      obtain ⟨hm1, hm2⟩ := hch _ (List.getElem_mem c1)
      rw [List.drop_eq_getElem_cons c1, loF] at hg
      generalize cs[j] = cc at *
      have hbfm : (bf.map inL).length = bf.length := List.length_map _
      have hb2 : (made ++ [cc]).map inL = (bf.map inL).take made.length ++ [[.v (.int .i64 cc)]] := by rw [List.map_append, ← List.map_take, tp]; rfl
      have hl2 : (made ++ [cc]).length = made.length + 1 := by simp
      have hSp := SpanOf_ro (made ++ [cc]) (by rw [hl2]; omega)
      have hii := ih (made ++ [cc]) b2 (by rw [hl2]; omega) (ha.snoc hm1 hm2) t0 t1 0 4 (by decide)
      have hkk := hvk (made ++ [cc]) b2 (by rw [hl2]; omega) (ha.snoc hm1 hm2) t0
      rw [hb2, hl2] at hii
      rw [hb2] at hSp
      have hdt2 : (((bf.map inL).take made.length ++ ([[.v (.int .i64 cc)]] : List (List AV))).drop 0).take (made.length + 1) = (bf.map inL).take made.length ++ [[.v (.int .i64 cc)]] := by
        rw [List.drop_zero, List.take_of_length_le]
        rw [← hb2, List.length_map, hl2]; omega
      have hk2 := hkk.non
      rw [hl2] at hk2
      generalize spV (made ++ [cc]) = sv at *
      generalize nxt (made ++ [cc]) b2 = q at *
      cases c2 : decide (sv ≤ 999) with
      | true =>
        rw [if_pos c2] at hg
        obtain ⟨q1, q2, q3, q4⟩ := q
        have kb := hkk.bud
        have kl := hkk.lo
        have kn := hkk.len
        have kp := hkk.pre
        dsimp only at hii hg kb kl kn hk2 kp
        have hqm : (q4.map inL).length = q4.length := List.length_map _
        by_cases c3 : q1 < 0
        · have b3 : decide (q1 < 0) = true := by simpa using c3
          rw [if_pos (.inl c3)] at hg
          subst hg
          ((repeat' (first
    | (show SQ _ _ _ _ _ _ _ _; first | apply sq_nil | (apply q_move; exact rfl; exact rfl) | (apply q_assign; exact rfl; exact rfl) | (apply q_pick_t; exact rfl; exact rfl; exact rfl; exact (by first | assumption | exact rfl)) | (apply q_fieldAddr; exact rfl; exact rfl; exact (ty rfl); exact rfl; exact rfl; exact rfl; exact rfl) | (apply q_nilc; exact rfl; exact rfl; exact rfl) | (apply q_lss; exact rfl; exact rfl; exact rfl) | (apply q_ixd; exact rfl; exact rfl; exact rfl; exact (ty rfl); exact rfl; exact (by first | omega | (simp; done) | (simp; omega)); exact (by first | omega | (simp; done) | (simp; omega)); exact (by first | rfl | assumption)) | (apply q_ld1d; exact rfl; exact rfl; exact (ty rfl); exact rfl; exact rfl) | (apply q_ld1p; exact rfl; exact rfl; exact (ty rfl); exact rfl; exact rfl; exact (by first | rfl | assumption | ((try simp only [Nat.zero_add]); refine List.getElem?_set_self ?_; (try simp only [List.length_set]); assumption)); exact rfl) | (apply q_s; exact rfl; exact rfl; exact rfl; exact (by assumption); exact rfl) | (apply q_sU; exact rfl; exact rfl; exact rfl; exact rfl))
    | (show SQ _ _ _ _ _ _ _ _; (first | (apply q_store; exact rfl; exact rfl; exact (ty rfl); exact rfl; exact (by first | rfl | assumption | ((try simp only [Nat.zero_add]); refine List.getElem?_set_self ?_; (try simp only [List.length_set]); assumption)); exact rfl; exact rfl; exact rfl) | (apply q_buildn; exact rfl; exact (ty rfl); exact rfl; exact rfl; exact rfl; exact rfl; exact rfl; exact rfl; exact rfl) | (apply q_apo_s; exact rfl; exact rfl; exact rfl; exact (ty rfl); exact rfl; exact rfl; exact (by first | omega | (simp; done) | (simp; omega)); exact (by first | exact List.take_of_length_le (by first | omega | (simp; done) | (simp; omega)) | rfl); exact (ty rfl); exact rfl; exact rfl; exact (by first | omega | (simp; done) | (simp; omega)); exact (by first | exact dt_full (by first | omega | (simp; done) | (simp; omega)) | assumption | rfl); exact rfl; exact (by first | omega | (simp; done) | (simp; omega)); exact (by first | omega | (simp; done) | (simp; omega)); exact (by first | assumption | exact rfl)) | (apply q_callC; exact rfl; exact rfl; exact rfl; exact hii _; (focus ((repeat (first | exact trivial | refine ⟨by first | exact rfl | assumption, ?_⟩)); done)); skip)); (try simp only [put, rowsOf, plR, List.all_cons, selE, ovr, setH, del, cellsA, splice, isV, List.nil_append, List.cons_append, List.map_cons, List.map_nil, List.length_cons, List.length_nil, List.set_cons_zero, List.set_cons_succ, List.take_succ_cons, List.take_zero, List.take_nil, List.drop_succ_cons, List.drop_zero, List.drop_nil, List.append_nil, List.all_cons, List.all_nil, Bool.and_true, Bool.true_and, Bool.and_false, Bool.false_and, Nat.reduceAdd, Nat.zero_add, Nat.add_zero, Nat.reduceEqDiff, if_true, if_false, reduceIte]))
    | (show DE _ _ _ _ _ _ _ _ _ _ _ _; first | (apply e_move; exact rfl; exact rfl; exact rfl) | (apply e_fieldAddr; exact rfl; exact rfl; exact (ty rfl); exact rfl; exact rfl; exact rfl; exact rfl; exact rfl) | (apply e_nilc; exact rfl; exact rfl; exact rfl; exact rfl) | (apply e_leq; exact rfl; exact rfl; exact rfl; exact rfl) | (apply e_ld1p; exact rfl; exact rfl; exact (ty rfl); exact rfl; exact rfl; exact (by first | rfl | assumption | ((try simp only [Nat.zero_add]); refine List.getElem?_set_self ?_; (try simp only [List.length_set]); assumption)); exact rfl; exact rfl))
    | (show DE _ _ _ _ _ _ _ _ _ _ _ _; (first | (apply dr_nil; exact trivial) | (apply e_callU; exact rfl; exact rfl; exact rfl; rotate_left; exact hSp _; exact rfl; rotate_right; focus ((repeat' (first | exact FzL.nil | exact (by assumption : FzC _) _ | refine FzL.cons ?_ ?_ | exact Fz.of rfl | exact Fz.nil | exact Fz.emp | (apply Fz.fnC; assumption) | (apply Fz.sl2; exact rfl; exact (by first | omega | (simp; done) | (simp; omega)); first | exact rfl | exact dt_full (by first | omega | (simp; done) | (simp; omega)) | assumption) | apply Fz.agg | (apply Fz.ptrL; exact rfl; first | exact rfl | assumption) | apply Fz.fnL)); done))); (try simp only [put, rowsOf, plR, List.all_cons, selE, ovr, setH, del, cellsA, splice, isV, List.nil_append, List.cons_append, List.map_cons, List.map_nil, List.length_cons, List.length_nil, List.set_cons_zero, List.set_cons_succ, List.take_succ_cons, List.take_zero, List.take_nil, List.drop_succ_cons, List.drop_zero, List.drop_nil, List.append_nil, List.all_cons, List.all_nil, Bool.and_true, Bool.true_and, Bool.and_false, Bool.false_and, Nat.reduceAdd, Nat.zero_add, Nat.add_zero, Nat.reduceEqDiff, if_true, if_false, reduceIte]))
    | (show AW _ _ _ _ _ _ _ _; first | refine aw_region ?_ | (refine aw_seqk ?_; intro K hK) | refine aw_block ?_ | (apply aw_cond_t; exact rfl; exact rfl) | (apply aw_cond_t; exact rfl; exact (by assumption)) | refine aw_ret ?_ | refine aw_skip ?_ | refine aw_drawE (id := 9) [0, 1, 3, 7, 15, 0, 32, 96, 224, 511] [0, 0, 0, 1, 1, 0, 0, 0, 1, 0] mixed (by kernel_rfl) ?_)
    | refine thn_n ?_
    | (refine hK _ _ _ ?_; clear hK K)
    | refine thn_r ?_
    | refine inb_r ?_)); all_goals (repeat (clear hK K)))
          all_goals exact finc (mv 2 5) .r0 rfl (fun z hz => by (try simp at hz); simp [mv]; omega) ⟨rfl, rfl, trivial⟩ rfl
        · have b3 : decide (q1 < 0) = false := by simpa using c3
          by_cases c4 : 0 < q2
          · have b4 : decide ((0 : Int) < (q2 : Int)) = true := by simpa using c4
            rw [if_pos (.inr c4)] at hg
            subst hg
            ((repeat' (first
    | (show SQ _ _ _ _ _ _ _ _; first | apply sq_nil | (apply q_move; exact rfl; exact rfl) | (apply q_assign; exact rfl; exact rfl) | (apply q_pick_t; exact rfl; exact rfl; exact rfl; exact (by first | assumption | exact rfl)) | (apply q_pick_f; exact rfl; exact rfl; exact rfl; exact (by first | assumption | exact rfl)) | (apply q_fieldAddr; exact rfl; exact rfl; exact (ty rfl); exact rfl; exact rfl; exact rfl; exact rfl) | (apply q_nilc; exact rfl; exact rfl; exact rfl) | (apply q_lss; exact rfl; exact rfl; exact rfl) | (apply q_gtr; exact rfl; exact rfl; exact rfl) | (apply q_ixd; exact rfl; exact rfl; exact rfl; exact (ty rfl); exact rfl; exact (by first | omega | (simp; done) | (simp; omega)); exact (by first | omega | (simp; done) | (simp; omega)); exact (by first | rfl | assumption)) | (apply q_ld1d; exact rfl; exact rfl; exact (ty rfl); exact rfl; exact rfl) | (apply q_ld1p; exact rfl; exact rfl; exact (ty rfl); exact rfl; exact rfl; exact (by first | rfl | assumption | ((try simp only [Nat.zero_add]); refine List.getElem?_set_self ?_; (try simp only [List.length_set]); assumption)); exact rfl) | (apply q_g; exact rfl; exact rfl; exact rfl; exact (by assumption)) | (apply q_g; exact rfl; exact rfl; exact rfl; exact rfl))
    | (show SQ _ _ _ _ _ _ _ _; (first | (apply q_store; exact rfl; exact rfl; exact (ty rfl); exact rfl; exact (by first | rfl | assumption | ((try simp only [Nat.zero_add]); refine List.getElem?_set_self ?_; (try simp only [List.length_set]); assumption)); exact rfl; exact rfl; exact rfl) | (apply q_buildn; exact rfl; exact (ty rfl); exact rfl; exact rfl; exact rfl; exact rfl; exact rfl; exact rfl; exact rfl) | (apply q_apo_s; exact rfl; exact rfl; exact rfl; exact (ty rfl); exact rfl; exact rfl; exact (by first | omega | (simp; done) | (simp; omega)); exact (by first | exact List.take_of_length_le (by first | omega | (simp; done) | (simp; omega)) | rfl); exact (ty rfl); exact rfl; exact rfl; exact (by first | omega | (simp; done) | (simp; omega)); exact (by first | exact dt_full (by first | omega | (simp; done) | (simp; omega)) | assumption | rfl); exact rfl; exact (by first | omega | (simp; done) | (simp; omega)); exact (by first | omega | (simp; done) | (simp; omega)); exact (by first | assumption | exact rfl)) | (apply q_callC; exact rfl; exact rfl; exact rfl; exact hii _; (focus ((repeat (first | exact trivial | refine ⟨by first | exact rfl | assumption, ?_⟩)); done)); skip)); (try simp only [put, rowsOf, plR, List.all_cons, selE, ovr, setH, del, cellsA, splice, isV, List.nil_append, List.cons_append, List.map_cons, List.map_nil, List.length_cons, List.length_nil, List.set_cons_zero, List.set_cons_succ, List.take_succ_cons, List.take_zero, List.take_nil, List.drop_succ_cons, List.drop_zero, List.drop_nil, List.append_nil, List.all_cons, List.all_nil, Bool.and_true, Bool.true_and, Bool.and_false, Bool.false_and, Nat.reduceAdd, Nat.zero_add, Nat.add_zero, Nat.reduceEqDiff, if_true, if_false, reduceIte]))
    | (show DE _ _ _ _ _ _ _ _ _ _ _ _; first | (apply e_move; exact rfl; exact rfl; exact rfl) | (apply e_fieldAddr; exact rfl; exact rfl; exact (ty rfl); exact rfl; exact rfl; exact rfl; exact rfl; exact rfl) | (apply e_nilc; exact rfl; exact rfl; exact rfl; exact rfl) | (apply e_leq; exact rfl; exact rfl; exact rfl; exact rfl) | (apply e_ld1p; exact rfl; exact rfl; exact (ty rfl); exact rfl; exact rfl; exact (by first | rfl | assumption | ((try simp only [Nat.zero_add]); refine List.getElem?_set_self ?_; (try simp only [List.length_set]); assumption)); exact rfl; exact rfl))
    | (show DE _ _ _ _ _ _ _ _ _ _ _ _; (first | (apply dr_nil; exact trivial) | (apply e_callU; exact rfl; exact rfl; exact rfl; rotate_left; exact hSp _; exact rfl; rotate_right; focus ((repeat' (first | exact FzL.nil | exact (by assumption : FzC _) _ | refine FzL.cons ?_ ?_ | exact Fz.of rfl | exact Fz.nil | exact Fz.emp | (apply Fz.fnC; assumption) | (apply Fz.sl2; exact rfl; exact (by first | omega | (simp; done) | (simp; omega)); first | exact rfl | exact dt_full (by first | omega | (simp; done) | (simp; omega)) | assumption) | apply Fz.agg | (apply Fz.ptrL; exact rfl; first | exact rfl | assumption) | apply Fz.fnL)); done))); (try simp only [put, rowsOf, plR, List.all_cons, selE, ovr, setH, del, cellsA, splice, isV, List.nil_append, List.cons_append, List.map_cons, List.map_nil, List.length_cons, List.length_nil, List.set_cons_zero, List.set_cons_succ, List.take_succ_cons, List.take_zero, List.take_nil, List.drop_succ_cons, List.drop_zero, List.drop_nil, List.append_nil, List.all_cons, List.all_nil, Bool.and_true, Bool.true_and, Bool.and_false, Bool.false_and, Nat.reduceAdd, Nat.zero_add, Nat.add_zero, Nat.reduceEqDiff, if_true, if_false, reduceIte]))
    | (show AW _ _ _ _ _ _ _ _; first | refine aw_region ?_ | (refine aw_seqk ?_; intro K hK) | refine aw_block ?_ | (apply aw_cond_t; exact rfl; exact (by assumption)) | refine aw_ret ?_ | refine aw_skip ?_ | refine aw_drawE (id := 9) [0, 1, 3, 7, 15, 0, 32, 96, 224, 511] [0, 0, 0, 1, 1, 0, 0, 0, 1, 0] mixed (by kernel_rfl) ?_)
    | refine thn_n ?_
    | (refine hK _ _ _ ?_; clear hK K)
    | refine thn_r ?_
    | refine inb_r ?_)); all_goals (repeat (clear hK K)))
            all_goals exact finc (mv 2 5) .r0 rfl (fun z hz => by (try simp at hz); simp [mv]; omega) ⟨rfl, rfl, trivial⟩ rfl
          · obtain rfl : q2 = 0 := by omega
            have b4 : decide ((0 : Int) < ((0 : Nat) : Int)) = false := by decide
            rw [if_neg (by omega)] at hg
            have e3 := hk2 rfl (by omega)
            subst e3
            have hpp : q4.take made.length = made := by
              have := congrArg (List.take made.length) (kp rfl)
              rwa [List.take_take, Nat.min_eq_left (by rw [hl2]; omega), List.take_append_of_le_length (Nat.le_refl _), List.take_length] at this
            ((repeat' (first
    | (show SQ _ _ _ _ _ _ _ _; first | apply sq_nil | (apply q_move; exact rfl; exact rfl) | (apply q_assign; exact rfl; exact rfl) | (apply q_pick_t; exact rfl; exact rfl; exact rfl; exact (by first | assumption | exact rfl)) | (apply q_pick_f; exact rfl; exact rfl; exact rfl; exact (by first | assumption | exact rfl)) | (apply q_fieldAddr; exact rfl; exact rfl; exact (ty rfl); exact rfl; exact rfl; exact rfl; exact rfl) | (apply q_nilc; exact rfl; exact rfl; exact rfl) | (apply q_add; exact rfl; exact rfl; exact rfl) | (apply q_lss; exact rfl; exact rfl; exact rfl) | (apply q_gtr; exact rfl; exact rfl; exact rfl) | (apply q_ixd; exact rfl; exact rfl; exact rfl; exact (ty rfl); exact rfl; exact (by first | omega | (simp; done) | (simp; omega)); exact (by first | omega | (simp; done) | (simp; omega)); exact (by first | rfl | assumption)) | (apply q_ld1d; exact rfl; exact rfl; exact (ty rfl); exact rfl; exact rfl) | (apply q_ld1p; exact rfl; exact rfl; exact (ty rfl); exact rfl; exact rfl; exact (by first | rfl | assumption | ((try simp only [Nat.zero_add]); refine List.getElem?_set_self ?_; (try simp only [List.length_set]); assumption)); exact rfl) | (apply q_ssl_h; exact rfl; exact rfl; exact rfl; exact (ty rfl); exact rfl; exact rfl; exact (by first | omega | (simp; done) | (simp; omega)); exact (by first | omega | (simp; done) | (simp; omega)); exact (by first | omega | (simp; done) | (simp; omega))) | (apply q_g; exact rfl; exact rfl; exact rfl; exact (by assumption)) | (apply q_g; exact rfl; exact rfl; exact rfl; exact rfl))
    | (show SQ _ _ _ _ _ _ _ _; (first | (apply q_store; exact rfl; exact rfl; exact (ty rfl); exact rfl; exact (by first | rfl | assumption | ((try simp only [Nat.zero_add]); refine List.getElem?_set_self ?_; (try simp only [List.length_set]); assumption)); exact rfl; exact rfl; exact rfl) | (apply q_buildn; exact rfl; exact (ty rfl); exact rfl; exact rfl; exact rfl; exact rfl; exact rfl; exact rfl; exact rfl) | (apply q_apo_s; exact rfl; exact rfl; exact rfl; exact (ty rfl); exact rfl; exact rfl; exact (by first | omega | (simp; done) | (simp; omega)); exact (by first | exact List.take_of_length_le (by first | omega | (simp; done) | (simp; omega)) | rfl); exact (ty rfl); exact rfl; exact rfl; exact (by first | omega | (simp; done) | (simp; omega)); exact (by first | exact dt_full (by first | omega | (simp; done) | (simp; omega)) | assumption | rfl); exact rfl; exact (by first | omega | (simp; done) | (simp; omega)); exact (by first | omega | (simp; done) | (simp; omega)); exact (by first | assumption | exact rfl)) | (apply q_callC; exact rfl; exact rfl; exact rfl; exact hii _; (focus ((repeat (first | exact trivial | refine ⟨by first | exact rfl | assumption, ?_⟩)); done)); skip)); (try simp only [put, rowsOf, plR, List.all_cons, selE, ovr, setH, del, cellsA, splice, isV, List.nil_append, List.cons_append, List.map_cons, List.map_nil, List.length_cons, List.length_nil, List.set_cons_zero, List.set_cons_succ, List.take_succ_cons, List.take_zero, List.take_nil, List.drop_succ_cons, List.drop_zero, List.drop_nil, List.append_nil, List.all_cons, List.all_nil, Bool.and_true, Bool.true_and, Bool.and_false, Bool.false_and, Nat.reduceAdd, Nat.zero_add, Nat.add_zero, Nat.reduceEqDiff, if_true, if_false, reduceIte]))
    | (show DE _ _ _ _ _ _ _ _ _ _ _ _; first | (apply e_move; exact rfl; exact rfl; exact rfl) | (apply e_fieldAddr; exact rfl; exact rfl; exact (ty rfl); exact rfl; exact rfl; exact rfl; exact rfl; exact rfl) | (apply e_nilc; exact rfl; exact rfl; exact rfl; exact rfl) | (apply e_leq; exact rfl; exact rfl; exact rfl; exact rfl) | (apply e_ld1p; exact rfl; exact rfl; exact (ty rfl); exact rfl; exact rfl; exact (by first | rfl | assumption | ((try simp only [Nat.zero_add]); refine List.getElem?_set_self ?_; (try simp only [List.length_set]); assumption)); exact rfl; exact rfl))
    | (show DE _ _ _ _ _ _ _ _ _ _ _ _; (first | (apply dr_nil; exact trivial) | (apply e_callU; exact rfl; exact rfl; exact rfl; rotate_left; exact hSp _; exact rfl; rotate_right; focus ((repeat' (first | exact FzL.nil | exact (by assumption : FzC _) _ | refine FzL.cons ?_ ?_ | exact Fz.of rfl | exact Fz.nil | exact Fz.emp | (apply Fz.fnC; assumption) | (apply Fz.sl2; exact rfl; exact (by first | omega | (simp; done) | (simp; omega)); first | exact rfl | exact dt_full (by first | omega | (simp; done) | (simp; omega)) | assumption) | apply Fz.agg | (apply Fz.ptrL; exact rfl; first | exact rfl | assumption) | apply Fz.fnL)); done))); (try simp only [put, rowsOf, plR, List.all_cons, selE, ovr, setH, del, cellsA, splice, isV, List.nil_append, List.cons_append, List.map_cons, List.map_nil, List.length_cons, List.length_nil, List.set_cons_zero, List.set_cons_succ, List.take_succ_cons, List.take_zero, List.take_nil, List.drop_succ_cons, List.drop_zero, List.drop_nil, List.append_nil, List.all_cons, List.all_nil, Bool.and_true, Bool.true_and, Bool.and_false, Bool.false_and, Nat.reduceAdd, Nat.zero_add, Nat.add_zero, Nat.reduceEqDiff, if_true, if_false, reduceIte]))
    | (show AW _ _ _ _ _ _ _ _; first | refine aw_region ?_ | (refine aw_seqk ?_; intro K hK) | refine aw_block ?_ | (apply aw_cond_f; exact rfl; exact rfl) | (apply aw_cond_t; exact rfl; exact (by assumption)) | refine aw_skip ?_ | refine aw_drawE (id := 9) [0, 1, 3, 7, 15, 0, 32, 96, 224, 511] [0, 0, 0, 1, 1, 0, 0, 0, 1, 0] mixed (by kernel_rfl) ?_)
    | refine thn_n ?_
    | (refine hK _ _ _ ?_; clear hK K)
    | refine inb_n ?_)); all_goals (repeat (clear hK K)))
            all_goals (refine ⟨(j + 1, (q1, q4)), mv 2 5, ⟨c1, by dsimp only; omega, by dsimp only; omega, hpp, hg⟩, by dsimp only; omega, ?_⟩; (try dsimp only); rw [← hw]; exact ⟨by (repeat (refine ⟨by first | exact lk_i rfl rfl | exact lk_d rfl rfl | exact lk_r rfl rfl rfl, ?_⟩)); exact trivial, by (repeat (refine ⟨by first | exact ⟨rfl, rfl, rfl⟩, ?_⟩)); exact trivial, by rfl, by (intro i hi; (try dsimp only); refine ⟨?_, ?_⟩ <;> first | rfl | omega | (simp [mv]; omega))⟩)
      | false =>
        rw [if_neg (by rw [c2]; simp)] at hg
        have b4 : decide ((0 : Int) < ((0 : Nat) : Int)) = false := by decide
        have b3 : decide (b2 < 0) = false := by rw [decide_eq_false_iff_not]; omega
        ((repeat' (first
    | (show SQ _ _ _ _ _ _ _ _; first | apply sq_nil | (apply q_move; exact rfl; exact rfl) | (apply q_assign; exact rfl; exact rfl) | (apply q_pick_t; exact rfl; exact rfl; exact rfl; exact (by first | assumption | exact rfl)) | (apply q_pick_f; exact rfl; exact rfl; exact rfl; exact (by first | assumption | exact rfl)) | (apply q_fieldAddr; exact rfl; exact rfl; exact (ty rfl); exact rfl; exact rfl; exact rfl; exact rfl) | (apply q_nilc; exact rfl; exact rfl; exact rfl) | (apply q_add; exact rfl; exact rfl; exact rfl) | (apply q_lss; exact rfl; exact rfl; exact rfl) | (apply q_gtr; exact rfl; exact rfl; exact rfl) | (apply q_ixd; exact rfl; exact rfl; exact rfl; exact (ty rfl); exact rfl; exact (by first | omega | (simp; done) | (simp; omega)); exact (by first | omega | (simp; done) | (simp; omega)); exact (by first | rfl | assumption)) | (apply q_ld1d; exact rfl; exact rfl; exact (ty rfl); exact rfl; exact rfl) | (apply q_ld1p; exact rfl; exact rfl; exact (ty rfl); exact rfl; exact rfl; exact (by first | rfl | assumption | ((try simp only [Nat.zero_add]); refine List.getElem?_set_self ?_; (try simp only [List.length_set]); assumption)); exact rfl) | (apply q_ssl_h; exact rfl; exact rfl; exact rfl; exact (ty rfl); exact rfl; exact rfl; exact (by first | omega | (simp; done) | (simp; omega)); exact (by first | omega | (simp; done) | (simp; omega)); exact (by first | omega | (simp; done) | (simp; omega))) | (apply q_g; exact rfl; exact rfl; exact rfl; exact (by assumption)) | (apply q_g; exact rfl; exact rfl; exact rfl; exact rfl))
    | (show SQ _ _ _ _ _ _ _ _; (first | (apply q_store; exact rfl; exact rfl; exact (ty rfl); exact rfl; exact (by first | rfl | assumption | ((try simp only [Nat.zero_add]); refine List.getElem?_set_self ?_; (try simp only [List.length_set]); assumption)); exact rfl; exact rfl; exact rfl) | (apply q_buildn; exact rfl; exact (ty rfl); exact rfl; exact rfl; exact rfl; exact rfl; exact rfl; exact rfl; exact rfl) | (apply q_apo_s; exact rfl; exact rfl; exact rfl; exact (ty rfl); exact rfl; exact rfl; exact (by first | omega | (simp; done) | (simp; omega)); exact (by first | exact List.take_of_length_le (by first | omega | (simp; done) | (simp; omega)) | rfl); exact (ty rfl); exact rfl; exact rfl; exact (by first | omega | (simp; done) | (simp; omega)); exact (by first | exact dt_full (by first | omega | (simp; done) | (simp; omega)) | assumption | rfl); exact rfl; exact (by first | omega | (simp; done) | (simp; omega)); exact (by first | omega | (simp; done) | (simp; omega)); exact (by first | assumption | exact rfl))); (try simp only [put, rowsOf, plR, List.all_cons, selE, ovr, setH, del, cellsA, splice, isV, List.nil_append, List.cons_append, List.map_cons, List.map_nil, List.length_cons, List.length_nil, List.set_cons_zero, List.set_cons_succ, List.take_succ_cons, List.take_zero, List.take_nil, List.drop_succ_cons, List.drop_zero, List.drop_nil, List.append_nil, List.all_cons, List.all_nil, Bool.and_true, Bool.true_and, Bool.and_false, Bool.false_and, Nat.reduceAdd, Nat.zero_add, Nat.add_zero, Nat.reduceEqDiff, if_true, if_false, reduceIte]))
    | (show DE _ _ _ _ _ _ _ _ _ _ _ _; first | (apply e_move; exact rfl; exact rfl; exact rfl) | (apply e_fieldAddr; exact rfl; exact rfl; exact (ty rfl); exact rfl; exact rfl; exact rfl; exact rfl; exact rfl) | (apply e_nilc; exact rfl; exact rfl; exact rfl; exact rfl) | (apply e_leq; exact rfl; exact rfl; exact rfl; exact rfl) | (apply e_ld1p; exact rfl; exact rfl; exact (ty rfl); exact rfl; exact rfl; exact (by first | rfl | assumption | ((try simp only [Nat.zero_add]); refine List.getElem?_set_self ?_; (try simp only [List.length_set]); assumption)); exact rfl; exact rfl))
    | (show DE _ _ _ _ _ _ _ _ _ _ _ _; (first | (apply dr_nil; exact trivial) | (apply e_callU; exact rfl; exact rfl; exact rfl; rotate_left; exact hSp _; exact rfl; rotate_right; focus ((repeat' (first | exact FzL.nil | exact (by assumption : FzC _) _ | refine FzL.cons ?_ ?_ | exact Fz.of rfl | exact Fz.nil | exact Fz.emp | (apply Fz.fnC; assumption) | (apply Fz.sl2; exact rfl; exact (by first | omega | (simp; done) | (simp; omega)); first | exact rfl | exact dt_full (by first | omega | (simp; done) | (simp; omega)) | assumption) | apply Fz.agg | (apply Fz.ptrL; exact rfl; first | exact rfl | assumption) | apply Fz.fnL)); done))); (try simp only [put, rowsOf, plR, List.all_cons, selE, ovr, setH, del, cellsA, splice, isV, List.nil_append, List.cons_append, List.map_cons, List.map_nil, List.length_cons, List.length_nil, List.set_cons_zero, List.set_cons_succ, List.take_succ_cons, List.take_zero, List.take_nil, List.drop_succ_cons, List.drop_zero, List.drop_nil, List.append_nil, List.all_cons, List.all_nil, Bool.and_true, Bool.true_and, Bool.and_false, Bool.false_and, Nat.reduceAdd, Nat.zero_add, Nat.add_zero, Nat.reduceEqDiff, if_true, if_false, reduceIte]))
    | (show AW _ _ _ _ _ _ _ _; first | refine aw_region ?_ | (refine aw_seqk ?_; intro K hK) | refine aw_block ?_ | (apply aw_cond_f; exact rfl; exact rfl) | (apply aw_cond_t; exact rfl; exact (by assumption)) | (apply aw_cond_f; exact rfl; exact (by assumption)) | refine aw_skip ?_ | refine aw_drawE (id := 9) [0, 1, 3, 7, 15, 0, 32, 96, 224, 511] [0, 0, 0, 1, 1, 0, 0, 0, 1, 0] mixed (by kernel_rfl) ?_)
    | refine thn_n ?_
    | (refine hK _ _ _ ?_; clear hK K)
    | refine inb_n ?_)); all_goals (repeat (clear hK K)))
        all_goals (refine ⟨(j + 1, (b2, made ++ [cc])), mv 2 4, ⟨c1, t0, t1, by rw [List.take_append_of_le_length (Nat.le_refl _), List.take_length], hg⟩, by dsimp only; omega, ?_⟩; (try dsimp only); rw [hb2, ← hw]; exact ⟨by (repeat (refine ⟨by first | exact lk_i rfl rfl | exact lk_d rfl rfl | exact lk_r rfl rfl rfl, ?_⟩)); exact trivial, by (repeat (refine ⟨by first | exact ⟨rfl, rfl, rfl⟩, ?_⟩)); exact trivial, by rfl, by (intro i hi; (try dsimp only); refine ⟨?_, ?_⟩ <;> first | rfl | omega | (simp [mv]; omega))⟩)
    · have b1 : decide ((j : Int) < (cs.length : Int)) = false := by simpa using c1
      obtain rfl : j = cs.length := by omega
      rw [List.drop_length, loF] at hg
      subst hg
      ((repeat' (first
    | (show SQ _ _ _ _ _ _ _ _; first | apply sq_nil | (apply q_lss; exact rfl; exact rfl; exact rfl))
    | (show AW _ _ _ _ _ _ _ _; first | refine aw_region ?_ | (refine aw_seqk ?_; intro K hK) | (apply aw_cond_f; exact rfl; exact (by assumption)) | refine aw_exit ?_)
    | refine thn_n ?_
    | (refine hK _ _ _ ?_; clear hK K)
    | refine thn_e ?_
    | refine inb_same ?_)); all_goals (repeat (clear hK K)))
      all_goals exact finc_n (fun z => z) .r0 rfl (fun z hz => rfl) ⟨rfl, rfl, trivial⟩ rfl
end Go.Proofs.Yteknfaldpajlpaa.Nb

namespace Go.Proofs.Yteknfaldpajlpaa.Nb
open Go Go.RowKit Go.Proofs.Yteknfaldpajlpaa.Aw Go.Proofs.Yteknfaldpajlpaa.In Go.Proofs.Yteknfaldpajlpaa.Il
set_option linter.unusedSimpArgs false
set_option linter.unusedVariables false
set_option linter.unusedSectionVars false
attribute [local irreducible] AW SQ Step RO RC DE Thn InB
def vq (ds ap : List (List Int)) : Vr := viF ds ap ds.length [] 20000
theorem vq_k (ds ap : List (List Int)) : Vk ds ap [] 20000 (vq ds ap) := viF_k ds.length [] 20000 (by simp) (fun i hi => by simp at hi) (by omega)
set_option maxHeartbeats 4000000 in
theorem arun_rc (ds ap : List (List Int)) (hS : NbS ds) (hA : NbS ap) (h : prB ds ap = true) (b k : Nat) :
    RC Try.prog 77 [.ptr b 0 0] [(b, ⟨99, 7, false, [[.dsl 1 (nbL ds), .dsl 1 (nbL ap), .v (.int .i64 20000), .v (.bool true), .v (.int .i64 999), .v (.slice none 0 0), .v (.int .i64 0)]]⟩)] k (.v (.int .i64 (if (vq ds ap).1 < 0 then 5 else 0)))
      [(b, some ⟨99, 7, false, asR ds ap (vq ds ap).1 k (vq ds ap).2.2.1 (vq ds ap).2.1⟩), (k, some ⟨2, 1, true, (vq ds ap).2.2.2.map inL⟩)] (k + 1) := by
  have hV := ValidProblem_ro ds ap hS hA
  rw [h] at hV
  have hB := budgetValid_ro ds hS 20000
  have eB : inB 20000 1 20000 = true := by decide
  rw [eB] at hB
  have hX := visit_rc ds ap hS hA (PrF.of h) ds.length [] 20000 (by simp) (fun i hi => by simp at hi) (by omega) (by omega) 0 1 (by decide)
  change ∀ k, RC _ _ _ _ k _ [(0, some ⟨_, _, _, asR ds ap (vq ds ap).1 k (vq ds ap).2.2.1 (vq ds ap).2.1⟩), (1, none), (k, some ⟨_, _, _, (vq ds ap).2.2.2.map inL⟩)] (k + 1) at hX
  generalize vq ds ap = Q at *
  obtain ⟨q1, q2, q3, q4⟩ := Q
  dsimp only at hX ⊢
  unfold asR at *
  refine RC.ofc [b] 1 [.ptr 0 0 0] [(0, ⟨99, 7, false, [[.dsl 1 (nbL ds), .dsl 1 (nbL ap), .v (.int .i64 20000), .v (.bool true), .v (.int .i64 999), .v (.slice none 0 0), .v (.int .i64 0)]]⟩)] (.v (.int .i64 (if q1 < 0 then 5 else 0))) [(0, some ⟨99, 7, false, [[.dsl 1 (nbL ds), .dsl 1 (nbL ap), .v (.int .i64 q1), .v (.bool true), .v (.int .i64 999), .sl 1 0 q3, .v (.int .i64 (q2 : Nat))]]⟩), (1, some ⟨2, 1, true, q4.map inL⟩)] Try.func77 Try.ntmps77 rfl (goFn_of Try.func77 rfl (by kernel_rfl)) rfl rfl rfl rfl rfl rfl rfl rfl (by simp_all) rfl ?_
  refine aw_nilB 0 0 5 2 1 rfl rfl rfl rfl rfl ?_
  by_cases c : q1 < 0
  · have d : decide (q1 < 0) = true := by simpa using c
    rw [if_pos c]
    ((repeat' (first
    | (show SQ _ _ _ _ _ _ _ _; first | apply sq_nil | (apply q_move; exact rfl; exact rfl) | (apply q_assign; exact rfl; exact rfl) | (apply q_fieldAddr; exact rfl; exact rfl; exact (ty rfl); exact rfl; exact rfl; exact rfl; exact rfl) | (apply q_nilc; exact rfl; exact rfl; exact rfl) | (apply q_not; exact rfl; exact rfl) | (apply q_lss; exact rfl; exact rfl; exact rfl) | (apply q_ld1p; exact rfl; exact rfl; exact (ty rfl); exact rfl; exact rfl; exact (by first | rfl | assumption | ((try simp only [Nat.zero_add]); refine List.getElem?_set_self ?_; (try simp only [List.length_set]); assumption)); exact rfl))
    | (show SQ _ _ _ _ _ _ _ _; (first | (apply q_ldap; exact rfl; exact rfl; exact (ty rfl); exact rfl; exact rfl; exact (by first | rfl | assumption | ((try simp only [Nat.zero_add]); refine List.getElem?_set_self ?_; (try simp only [List.length_set]); assumption)); exact rfl) | (apply q_callU; exact rfl; exact rfl; exact rfl; exact FzL.of rfl; exact hV _) | (apply q_callU; exact rfl; exact rfl; exact rfl; exact FzL.of rfl; exact hB _) | (apply q_callC; exact rfl; exact rfl; exact rfl; exact hX _; (focus ((repeat (first | exact trivial | refine ⟨by first | exact rfl | assumption, ?_⟩)); done)); skip)); (try simp only [put, rowsOf, plR, List.all_cons, selE, ovr, setH, del, cellsA, splice, isV, List.nil_append, List.cons_append, List.map_cons, List.map_nil, List.length_cons, List.length_nil, List.set_cons_zero, List.set_cons_succ, List.take_succ_cons, List.take_zero, List.take_nil, List.drop_succ_cons, List.drop_zero, List.drop_nil, List.append_nil, List.all_cons, List.all_nil, Bool.and_true, Bool.true_and, Bool.and_false, Bool.false_and, Nat.reduceAdd, Nat.zero_add, Nat.add_zero, Nat.reduceEqDiff, if_true, if_false, reduceIte]))
    | (show AW _ _ _ _ _ _ _ _; first | refine aw_region ?_ | (refine aw_seqk ?_; intro K hK) | refine aw_block ?_ | (apply aw_cond_f; exact rfl; exact rfl) | (apply aw_cond_t; exact rfl; exact (by assumption)) | refine aw_ret ?_ | refine aw_skip ?_)
    | refine thn_n ?_
    | (refine hK _ _ _ ?_; clear hK K)
    | refine thn_r ?_
    | refine inb_n ?_)); all_goals (repeat (clear hK K)))
    all_goals exact finc (mv 1 2) (.r1 _ _ (.tmp _ _ rfl)) rfl (fun z hz => by (try simp at hz); simp [mv]; omega) ⟨rfl, rfl, trivial⟩ rfl
  · have d : decide (q1 < 0) = false := by simpa using c
    rw [if_neg c]
    ((repeat' (first
    | (show SQ _ _ _ _ _ _ _ _; first | apply sq_nil | (apply q_move; exact rfl; exact rfl) | (apply q_assign; exact rfl; exact rfl) | (apply q_fieldAddr; exact rfl; exact rfl; exact (ty rfl); exact rfl; exact rfl; exact rfl; exact rfl) | (apply q_nilc; exact rfl; exact rfl; exact rfl) | (apply q_not; exact rfl; exact rfl) | (apply q_lss; exact rfl; exact rfl; exact rfl) | (apply q_ld1p; exact rfl; exact rfl; exact (ty rfl); exact rfl; exact rfl; exact (by first | rfl | assumption | ((try simp only [Nat.zero_add]); refine List.getElem?_set_self ?_; (try simp only [List.length_set]); assumption)); exact rfl))
    | (show SQ _ _ _ _ _ _ _ _; (first | (apply q_ldap; exact rfl; exact rfl; exact (ty rfl); exact rfl; exact rfl; exact (by first | rfl | assumption | ((try simp only [Nat.zero_add]); refine List.getElem?_set_self ?_; (try simp only [List.length_set]); assumption)); exact rfl) | (apply q_callU; exact rfl; exact rfl; exact rfl; exact FzL.of rfl; exact hV _) | (apply q_callU; exact rfl; exact rfl; exact rfl; exact FzL.of rfl; exact hB _) | (apply q_callC; exact rfl; exact rfl; exact rfl; exact hX _; (focus ((repeat (first | exact trivial | refine ⟨by first | exact rfl | assumption, ?_⟩)); done)); skip)); (try simp only [put, rowsOf, plR, List.all_cons, selE, ovr, setH, del, cellsA, splice, isV, List.nil_append, List.cons_append, List.map_cons, List.map_nil, List.length_cons, List.length_nil, List.set_cons_zero, List.set_cons_succ, List.take_succ_cons, List.take_zero, List.take_nil, List.drop_succ_cons, List.drop_zero, List.drop_nil, List.append_nil, List.all_cons, List.all_nil, Bool.and_true, Bool.true_and, Bool.and_false, Bool.false_and, Nat.reduceAdd, Nat.zero_add, Nat.add_zero, Nat.reduceEqDiff, if_true, if_false, reduceIte]))
    | (show AW _ _ _ _ _ _ _ _; first | refine aw_region ?_ | (refine aw_seqk ?_; intro K hK) | refine aw_block ?_ | (apply aw_cond_f; exact rfl; exact rfl) | (apply aw_cond_f; exact rfl; exact (by assumption)) | refine aw_ret ?_ | refine aw_skip ?_)
    | refine thn_n ?_
    | (refine hK _ _ _ ?_; clear hK K)
    | refine inb_n ?_)); all_goals (repeat (clear hK K)))
    all_goals exact finc (mv 1 2) (.r1 _ _ (.tmp _ _ rfl)) rfl (fun z hz => by (try simp at hz); simp [mv]; omega) ⟨rfl, rfl, trivial⟩ rfl
section
variable (ds ap : List (List Int)) (hS : NbS ds) (hA : NbS ap) (h : prB ds ap = true)
include hS hA h
theorem First_full (hv : ((vq ds ap).1 < 0)) (k : Nat) : RO Try.prog 34 [.agg [.dsl 1 (nbL ds), .dsl 1 (nbL ap)], .v (.int .i64 20000)] k (.tup [.v (.slice none 0 0), .v (.int .i64 5)]) [] k := by
  have hX := arun_rc ds ap hS hA h 1
  generalize vq ds ap = Q at *
  obtain ⟨q1, q2, q3, q4⟩ := Q
  dsimp only at hX hv ⊢
  unfold asR at hX
  rw [if_pos hv] at hX
  refine RO.ofp Try.func34 Try.ntmps34 rfl (goFn_of Try.func34 rfl (by kernel_rfl)) rfl rfl rfl ?_
  ((repeat' (first
    | (show SQ _ _ _ _ _ _ _ _; first | apply sq_nil | (apply q_move; exact rfl; exact rfl) | (apply q_assign; exact rfl; exact rfl) | (apply q_neq; exact rfl; exact rfl; exact rfl) | (apply q_build; exact rfl; exact (ty rfl); exact rfl; exact rfl; exact rfl))
    | (show SQ _ _ _ _ _ _ _ _; (first | (apply q_ldap; exact rfl; exact rfl; exact (ty rfl); exact rfl; exact rfl; exact (by first | rfl | assumption | ((try simp only [Nat.zero_add]); refine List.getElem?_set_self ?_; (try simp only [List.length_set]); assumption)); exact rfl) | (apply q_box; exact rfl; exact rfl; exact rfl) | (apply q_alloc; exact rfl; exact (ty rfl); exact rfl; exact rfl) | (apply q_store; exact rfl; exact rfl; exact (ty rfl); exact rfl; exact (by first | rfl | assumption | ((try simp only [Nat.zero_add]); refine List.getElem?_set_self ?_; (try simp only [List.length_set]); assumption)); exact rfl; exact rfl; exact rfl) | (apply q_callC; exact rfl; exact rfl; exact rfl; exact hX _; (focus ((repeat (first | exact trivial | refine ⟨by first | exact rfl | assumption, ?_⟩)); done)); skip)); (try simp only [put, rowsOf, plR, List.all_cons, selE, ovr, setH, del, cellsA, splice, isV, List.nil_append, List.cons_append, List.map_cons, List.map_nil, List.length_cons, List.length_nil, List.set_cons_zero, List.set_cons_succ, List.take_succ_cons, List.take_zero, List.take_nil, List.drop_succ_cons, List.drop_zero, List.drop_nil, List.append_nil, List.all_cons, List.all_nil, Bool.and_true, Bool.true_and, Bool.and_false, Bool.false_and, Nat.reduceAdd, Nat.zero_add, Nat.add_zero, Nat.reduceEqDiff, if_true, if_false, reduceIte]))
    | (show AW _ _ _ _ _ _ _ _; first | refine aw_region ?_ | (refine aw_seqk ?_; intro K hK) | (apply aw_cond_t; exact rfl; exact rfl) | refine aw_ret ?_)
    | refine thn_n ?_
    | (refine hK _ _ _ ?_; clear hK K)
    | refine thn_r ?_)); all_goals (repeat (clear hK K)))
  all_goals (refine fin_r (fin_p (.r2 _ _ _ _ (.tmp _ _ rfl) (.tmp _ _ rfl)) ?_ rfl rfl rfl); rfl)
theorem First_none (hv : (¬ (vq ds ap).1 < 0 ∧ (vq ds ap).2.1 = 0)) (k : Nat) : RO Try.prog 34 [.agg [.dsl 1 (nbL ds), .dsl 1 (nbL ap)], .v (.int .i64 20000)] k (.tup [.v (.slice none 0 0), .v (.int .i64 3)]) [] k := by
  have hX := arun_rc ds ap hS hA h 1
  generalize vq ds ap = Q at *
  obtain ⟨q1, q2, q3, q4⟩ := Q
  dsimp only at hX hv ⊢
  unfold asR at hX
  (rw [if_neg hv.1] at hX; have d2 : (((q2 : Nat) : Int) == 0) = true := by simp; exact hv.2)
  refine RO.ofp Try.func34 Try.ntmps34 rfl (goFn_of Try.func34 rfl (by kernel_rfl)) rfl rfl rfl ?_
  ((repeat' (first
    | (show SQ _ _ _ _ _ _ _ _; first | apply sq_nil | (apply q_move; exact rfl; exact rfl) | (apply q_assign; exact rfl; exact rfl) | (apply q_fieldAddr; exact rfl; exact rfl; exact (ty rfl); exact rfl; exact rfl; exact rfl; exact rfl) | (apply q_eql; exact rfl; exact rfl; exact rfl) | (apply q_neq; exact rfl; exact rfl; exact rfl) | (apply q_ld1p; exact rfl; exact rfl; exact (ty rfl); exact rfl; exact rfl; exact (by first | rfl | assumption | ((try simp only [Nat.zero_add]); refine List.getElem?_set_self ?_; (try simp only [List.length_set]); assumption)); exact rfl) | (apply q_build; exact rfl; exact (ty rfl); exact rfl; exact rfl; exact rfl))
    | (show SQ _ _ _ _ _ _ _ _; (first | (apply q_ldap; exact rfl; exact rfl; exact (ty rfl); exact rfl; exact rfl; exact (by first | rfl | assumption | ((try simp only [Nat.zero_add]); refine List.getElem?_set_self ?_; (try simp only [List.length_set]); assumption)); exact rfl) | (apply q_box; exact rfl; exact rfl; exact rfl) | (apply q_alloc; exact rfl; exact (ty rfl); exact rfl; exact rfl) | (apply q_store; exact rfl; exact rfl; exact (ty rfl); exact rfl; exact (by first | rfl | assumption | ((try simp only [Nat.zero_add]); refine List.getElem?_set_self ?_; (try simp only [List.length_set]); assumption)); exact rfl; exact rfl; exact rfl) | (apply q_callC; exact rfl; exact rfl; exact rfl; exact hX _; (focus ((repeat (first | exact trivial | refine ⟨by first | exact rfl | assumption, ?_⟩)); done)); skip)); (try simp only [put, rowsOf, plR, List.all_cons, selE, ovr, setH, del, cellsA, splice, isV, List.nil_append, List.cons_append, List.map_cons, List.map_nil, List.length_cons, List.length_nil, List.set_cons_zero, List.set_cons_succ, List.take_succ_cons, List.take_zero, List.take_nil, List.drop_succ_cons, List.drop_zero, List.drop_nil, List.append_nil, List.all_cons, List.all_nil, Bool.and_true, Bool.true_and, Bool.and_false, Bool.false_and, Nat.reduceAdd, Nat.zero_add, Nat.add_zero, Nat.reduceEqDiff, if_true, if_false, reduceIte]))
    | (show AW _ _ _ _ _ _ _ _; first | refine aw_region ?_ | (refine aw_seqk ?_; intro K hK) | (apply aw_cond_f; exact rfl; exact rfl) | (apply aw_cond_t; exact rfl; exact (by assumption)) | refine aw_ret ?_ | refine aw_skip ?_)
    | refine thn_n ?_
    | (refine hK _ _ _ ?_; clear hK K)
    | refine thn_r ?_)); all_goals (repeat (clear hK K)))
  all_goals (refine fin_r (fin_p (.r2 _ _ _ _ (.tmp _ _ rfl) (.tmp _ _ rfl)) ?_ rfl rfl rfl); rfl)
theorem First_okR (hv : (¬ (vq ds ap).1 < 0 ∧ (vq ds ap).2.1 ≠ 0)) (k : Nat) : RO Try.prog 34 [.agg [.dsl 1 (nbL ds), .dsl 1 (nbL ap)], .v (.int .i64 20000)] k (.tup [.sl k 0 (vq ds ap).2.2.1, .v (.int .i64 0)]) [(k, ⟨2, 1, true, (vq ds ap).2.2.2.map inL⟩)] (k + 1) := by
  have hX := arun_rc ds ap hS hA h 1
  generalize vq ds ap = Q at *
  obtain ⟨q1, q2, q3, q4⟩ := Q
  dsimp only at hX hv ⊢
  unfold asR at hX
  (rw [if_neg hv.1] at hX; have d2 : (((q2 : Nat) : Int) == 0) = false := by simp; exact hv.2)
  refine RO.ofm (.tup [.sl 0 0 q3, .v (.int .i64 0)]) ([(0, ⟨2, 1, true, q4.map inL⟩)]) 1 Try.func34 Try.ntmps34 rfl (goFn_of Try.func34 rfl (by kernel_rfl)) rfl rfl (by simp [renA, renL]) (by simp [shH, renB]) rfl ?_
  ((repeat' (first
    | (show SQ _ _ _ _ _ _ _ _; first | apply sq_nil | (apply q_move; exact rfl; exact rfl) | (apply q_assign; exact rfl; exact rfl) | (apply q_fieldAddr; exact rfl; exact rfl; exact (ty rfl); exact rfl; exact rfl; exact rfl; exact rfl) | (apply q_eql; exact rfl; exact rfl; exact rfl) | (apply q_neq; exact rfl; exact rfl; exact rfl) | (apply q_ld1p; exact rfl; exact rfl; exact (ty rfl); exact rfl; exact rfl; exact (by first | rfl | assumption | ((try simp only [Nat.zero_add]); refine List.getElem?_set_self ?_; (try simp only [List.length_set]); assumption)); exact rfl) | (apply q_build; exact rfl; exact (ty rfl); exact rfl; exact rfl; exact rfl))
    | (show SQ _ _ _ _ _ _ _ _; (first | (apply q_ldap; exact rfl; exact rfl; exact (ty rfl); exact rfl; exact rfl; exact (by first | rfl | assumption | ((try simp only [Nat.zero_add]); refine List.getElem?_set_self ?_; (try simp only [List.length_set]); assumption)); exact rfl) | (apply q_box; exact rfl; exact rfl; exact rfl) | (apply q_alloc; exact rfl; exact (ty rfl); exact rfl; exact rfl) | (apply q_store; exact rfl; exact rfl; exact (ty rfl); exact rfl; exact (by first | rfl | assumption | ((try simp only [Nat.zero_add]); refine List.getElem?_set_self ?_; (try simp only [List.length_set]); assumption)); exact rfl; exact rfl; exact rfl) | (apply q_callC; exact rfl; exact rfl; exact rfl; exact hX _; (focus ((repeat (first | exact trivial | refine ⟨by first | exact rfl | assumption, ?_⟩)); done)); skip)); (try simp only [put, rowsOf, plR, List.all_cons, selE, ovr, setH, del, cellsA, splice, isV, List.nil_append, List.cons_append, List.map_cons, List.map_nil, List.length_cons, List.length_nil, List.set_cons_zero, List.set_cons_succ, List.take_succ_cons, List.take_zero, List.take_nil, List.drop_succ_cons, List.drop_zero, List.drop_nil, List.append_nil, List.all_cons, List.all_nil, Bool.and_true, Bool.true_and, Bool.and_false, Bool.false_and, Nat.reduceAdd, Nat.zero_add, Nat.add_zero, Nat.reduceEqDiff, if_true, if_false, reduceIte]))
    | (show AW _ _ _ _ _ _ _ _; first | refine aw_region ?_ | (refine aw_seqk ?_; intro K hK) | (apply aw_cond_f; exact rfl; exact rfl) | (apply aw_cond_f; exact rfl; exact (by assumption)) | refine aw_ret ?_ | refine aw_skip ?_)
    | refine thn_n ?_
    | (refine hK _ _ _ ?_; clear hK K))); all_goals (repeat (clear hK K)))
  all_goals exact fin_r (fin_m2 rfl rfl rfl _ _ rfl rfl rfl)
end
end Go.Proofs.Yteknfaldpajlpaa.Nb

namespace Go.Proofs.Yteknfaldpajlpaa.Nb
open Go Go.RowKit Go.Proofs.Yteknfaldpajlpaa.Aw Go.Proofs.Yteknfaldpajlpaa.In Go.Proofs.Yteknfaldpajlpaa.Il
set_option linter.unusedSimpArgs false
set_option linter.unusedVariables false
set_option linter.unusedSectionVars false
attribute [local irreducible] AW SQ Step RO RC DE Thn InB
def dfK (p : Int → Bool) (xs : List Int) (j : Nat) : List Int := (xs.take j).filter fun x => !p x
def dfR (p : Int → Bool) (xs : List Int) (j : Nat) : List Int := dfK p xs j ++ xs.drop (dfK p xs j).length
theorem dfK_len (p : Int → Bool) (xs : List Int) (j : Nat) : (dfK p xs j).length ≤ j := by
  have := List.length_filter_le (fun x => !p x) (xs.take j)
  simp only [dfK, List.length_take] at *
  omega
theorem dfK_le (p : Int → Bool) (xs : List Int) (j : Nat) : (dfK p xs j).length ≤ xs.length := by
  have := List.length_filter_le (fun x => !p x) (xs.take j)
  simp only [dfK, List.length_take] at *
  omega
theorem dfR_len (p : Int → Bool) (xs : List Int) (j : Nat) : (dfR p xs j).length = xs.length := by
  have := dfK_le p xs j
  simp [dfR]; omega
theorem dfK_yes {p : Int → Bool} {xs : List Int} {j : Nat} (h : j < xs.length) (hp : p xs[j] = true) : dfK p xs (j + 1) = dfK p xs j := by
  unfold dfK; rw [List.take_succ_eq_append_getElem h, List.filter_append]; simp [hp]
theorem dfK_no {p : Int → Bool} {xs : List Int} {j : Nat} (h : j < xs.length) (hp : p xs[j] = false) : dfK p xs (j + 1) = dfK p xs j ++ [xs[j]] := by
  unfold dfK; rw [List.take_succ_eq_append_getElem h, List.filter_append]; simp [hp]
theorem dfR_get {p : Int → Bool} {xs : List Int} {j : Nat} (h : j < xs.length) : (dfR p xs j)[j]? = some xs[j] := by
  have := dfK_len p xs j
  rw [dfR, List.getElem?_append_right (by omega), List.getElem?_drop, show (dfK p xs j).length + (j - (dfK p xs j).length) = j by omega]
  simp [h]
theorem dfR_set {p : Int → Bool} {xs : List Int} {j : Nat} (h : j < xs.length) (hp : p xs[j] = false) : (dfR p xs j).set (dfK p xs j).length xs[j] = dfR p xs (j + 1) := by
  have h1 := dfK_len p xs j
  unfold dfR; rw [dfK_no h hp, List.set_append_right _ _ (Nat.le_refl _), Nat.sub_self, List.length_append, List.length_singleton]
  have : xs.drop (dfK p xs j).length = xs[(dfK p xs j).length] :: xs.drop ((dfK p xs j).length + 1) := List.drop_eq_getElem_cons (by omega)
  rw [this, List.set_cons_zero, List.append_assoc, List.singleton_append]
theorem dfR_same {p : Int → Bool} {xs : List Int} {j : Nat} (h : j < xs.length) (hp : p xs[j] = true) : dfR p xs (j + 1) = dfR p xs j := by
  unfold dfR; rw [dfK_yes h hp]
theorem dfK_full (p : Int → Bool) (xs : List Int) : dfK p xs xs.length = xs.filter fun x => !p x := by simp [dfK]
theorem dfK_pre {p : Int → Bool} {xs : List Int} {j : Nat} (h : ∀ y ∈ xs.take j, p y = false) : dfK p xs j = xs.take j := by
  refine List.filter_eq_self.2 fun x hx => ?_
  rw [h x hx]; rfl
theorem ixG_split {α : Type} (p : α → Bool) : ∀ xs : List α, (ixG p xs = -1 ∧ ∀ y ∈ xs, p y = false) ∨ ∃ (i : Nat) (h : i < xs.length), ixG p xs = i ∧ (∀ y ∈ xs.take i, p y = false) ∧ p xs[i] = true
  | [] => .inl ⟨rfl, by simp⟩
  | x :: xs => by
    cases hx : p x with
    | true => exact .inr ⟨0, by simp, by simp [ixG, hx], by simp, by simpa using hx⟩
    | false =>
      rcases ixG_split p xs with ⟨h1, h2⟩ | ⟨i, hi, h1, h2, h3⟩
      · refine .inl ⟨ixG_none p _ ?_, ?_⟩ <;> (intro y hy; rcases List.mem_cons.1 hy with rfl | hy; exact hx; exact h2 y hy)
      · refine .inr ⟨i + 1, by simp; omega, ?_, ?_, by simpa using h3⟩
        · have hh : ∀ y ∈ (x :: xs).take (i + 1), p y = false := by
            intro y hy
            rw [List.take_succ_cons] at hy
            rcases List.mem_cons.1 hy with rfl | hy
            · exact hx
            · exact h2 y hy
          exact ixG_hit (xs := x :: xs) (i := i + 1) (by simp; omega) hh (by simpa using h3)
        · intro y hy
          rw [List.take_succ_cons] at hy
          rcases List.mem_cons.1 hy with rfl | hy
          · exact hx
          · exact h2 y hy
def gdB (ds ap : List (List Int)) (list : List Int) (x : Int) : Bool := ((ds.getD x.toNat []).any fun y => y == list.getD x.toNat 0) && (cfN ap list x.toNat (list.getD x.toNat 0) list.length == 0)
theorem stB_in {ds : List (List Int)} {list : List Int} (h : stB ds list = true) : list.length = ds.length ∧ ∀ x ∈ list, 0 ≤ x ∧ x ≤ 999 := by
  simp only [stB, Bool.and_eq_true, decide_eq_true_eq, Bool.not_eq_true', List.any_eq_false] at h
  refine ⟨h.1, fun x hx => ?_⟩
  have := h.2 x hx
  simpa [inB] using this
def bdV (ds ap : List (List Int)) (list : List Int) (i : Nat) : Int := if ((ds.getD i []).any fun y => y == list.getD i 0) = true then (cfN ap list i (list.getD i 0) list.length : Int) else IntKind.i64.wrap ((cfN ap list i (list.getD i 0) list.length : Int) + 24)
set_option maxHeartbeats 4000000 in
theorem badness_ro (ds ap : List (List Int)) (list : List Int) (i : Nat) (hS : NbS ds) (hA : NbS ap) (hP : PrF ds ap) (h2 : stB ds list = true) (hi : i < list.length) (k : Nat) :
    RO Try.prog 84 [.agg [.dsl 1 (nbL ds), .dsl 1 (nbL ap)], .dsl 1 (list.map inL), .v (.int .i64 (i : Nat))] k (.v (.int .i64 (bdV ds ap list i))) [] k := by
  obtain ⟨hl, hv⟩ := stB_in h2
  have hn := hP.n
  have hid : i < ds.length := by omega
  have hg : ds.getD i [] = ds[i] := by simp [List.getD, hid]
  have hr1 : (list.map inL)[((i : Int)).toNat]? = some (inL (list.getD i 0)) := by simp [hi, List.getD]
  rw [inL_eq] at hr1
  have hml : (list.map inL).length = list.length := List.length_map _
  have hnl := nbL_len ds
  have hr2 := nbL_get hid
  have hvi := hv _ (List.getElem_mem hi)
  have e0 : list.getD i 0 = list[i] := by simp [List.getD, hi]
  have hC := conflicts_ro ds ap list i (list.getD i 0) hA (by rw [hP.a]; exact hid) (by rw [hP.rows i (by rw [hP.a]; exact hid)]; omega) (by omega) (by rw [e0]; exact hvi) hv
  have hCo := slContains_ro ds[i] (ds[i].map inL) (list.getD i 0) rfl (hS.m _ (List.getElem_mem hid))
  unfold bdV
  rw [hg]
  generalize cfN ap list i (list.getD i 0) list.length = cf at *
  generalize ds[i] = dom at *
  generalize list.getD i 0 = c at *
  cases hd : (dom.any fun y => y == c) with
  | true =>
    rw [hd] at hCo
    rw [if_pos rfl]
    refine RO.ofv' Try.func84 Try.ntmps84 rfl (goFn_of Try.func84 rfl (by kernel_rfl)) rfl rfl ?_
    ((repeat' (first
    | (show SQ _ _ _ _ _ _ _ _; apply sq_frzp (t := 3); exact rfl; exact rfl; exact (by first | rfl | exact all_noOwn_map (fun _ => rfl) | assumption | exact hclo); exact (by first | rfl | assumption); exact rfl; (try simp only [put, rowsOf, plR, List.all_cons, selE, ovr, setH, del, cellsA, splice, isV, List.nil_append, List.cons_append, List.map_cons, List.map_nil, List.length_cons, List.length_nil, List.set_cons_zero, List.set_cons_succ, List.take_succ_cons, List.take_zero, List.take_nil, List.drop_succ_cons, List.drop_zero, List.drop_nil, List.append_nil, List.all_cons, List.all_nil, Bool.and_true, Bool.true_and, Bool.and_false, Bool.false_and, Nat.reduceAdd, Nat.zero_add, Nat.add_zero, Nat.reduceEqDiff, if_true, if_false, reduceIte]))
    | (show SQ _ _ _ _ _ _ _ _; first | apply sq_nil | (apply q_move; exact rfl; exact rfl) | (apply q_assign; exact rfl; exact rfl))
    | (show SQ _ _ _ _ _ _ _ _; (first | (apply q_box; exact rfl; exact rfl; exact rfl)); (try simp only [put, rowsOf, plR, List.all_cons, selE, ovr, setH, del, cellsA, splice, isV, List.nil_append, List.cons_append, List.map_cons, List.map_nil, List.length_cons, List.length_nil, List.set_cons_zero, List.set_cons_succ, List.take_succ_cons, List.take_zero, List.take_nil, List.drop_succ_cons, List.drop_zero, List.drop_nil, List.append_nil, List.all_cons, List.all_nil, Bool.and_true, Bool.true_and, Bool.and_false, Bool.false_and, Nat.reduceAdd, Nat.zero_add, Nat.add_zero, Nat.reduceEqDiff, if_true, if_false, reduceIte]))
    | (show DE _ _ _ _ _ _ _ _ _ _ _ _; first | (apply e_move; exact rfl; exact rfl; exact rfl) | (apply e_assign; exact rfl; exact rfl; exact rfl) | (apply e_fieldAddr; exact rfl; exact rfl; exact (ty rfl); exact rfl; exact rfl; exact rfl; exact rfl; exact rfl) | (apply e_not; exact rfl; exact rfl; exact rfl) | (apply e_ixd; exact rfl; exact rfl; exact rfl; exact (ty rfl); exact rfl; exact (by first | omega | (simp; done) | (simp; omega)); exact (by first | omega | (simp; done) | (simp; omega)); exact (by first | rfl | assumption); exact rfl) | (apply e_ld1d; exact rfl; exact rfl; exact (ty rfl); exact rfl; exact rfl; exact rfl))
    | (show DE _ _ _ _ _ _ _ _ _ _ _ _; (first | (apply dr_nil; exact trivial) | (apply e_ldad; exact rfl; exact rfl; exact (ty rfl); exact rfl; exact rfl; exact rfl) | (apply e_callU; exact rfl; exact rfl; exact rfl; exact FzL.of rfl; exact hC _; exact rfl) | (apply e_callU; exact rfl; exact rfl; exact rfl; exact FzL.of rfl; exact hCo _; exact rfl)); (try simp only [put, rowsOf, plR, List.all_cons, selE, ovr, setH, del, cellsA, splice, isV, List.nil_append, List.cons_append, List.map_cons, List.map_nil, List.length_cons, List.length_nil, List.set_cons_zero, List.set_cons_succ, List.take_succ_cons, List.take_zero, List.take_nil, List.drop_succ_cons, List.drop_zero, List.drop_nil, List.append_nil, List.all_cons, List.all_nil, Bool.and_true, Bool.true_and, Bool.and_false, Bool.false_and, Nat.reduceAdd, Nat.zero_add, Nat.add_zero, Nat.reduceEqDiff, if_true, if_false, reduceIte]))
    | (show AW _ _ _ _ _ _ _ _; first | refine aw_region ?_ | (refine aw_seqk ?_; intro K hK) | (apply aw_cond_f; exact rfl; exact rfl) | refine aw_ret ?_ | refine aw_skip ?_ | refine aw_drawE (id := 1) [0, 0, 0, 0, 0, 24, 56, 127, 255] [1, 0, 0, 0, 0, 0, 1, 1, 0] mixed (by kernel_rfl) ?_ | refine aw_drawE (id := 2) [0, 1, 0, 7, 15, 0, 0, 96, 224, 511, 1023] [0, 1, 0, 0, 1, 0, 0, 0, 1, 1, 0] mixed (by kernel_rfl) ?_)
    | refine thn_n ?_
    | (refine hK _ _ _ ?_; clear hK K))); all_goals (repeat (clear hK K)))
    all_goals exact fin_r (fin_i rfl rfl)
  | false =>
    rw [hd] at hCo
    rw [if_neg (by simp)]
    refine RO.ofv' Try.func84 Try.ntmps84 rfl (goFn_of Try.func84 rfl (by kernel_rfl)) rfl rfl ?_
    ((repeat' (first
    | (show SQ _ _ _ _ _ _ _ _; apply sq_frzp (t := 3); exact rfl; exact rfl; exact (by first | rfl | exact all_noOwn_map (fun _ => rfl) | assumption | exact hclo); exact (by first | rfl | assumption); exact rfl; (try simp only [put, rowsOf, plR, List.all_cons, selE, ovr, setH, del, cellsA, splice, isV, List.nil_append, List.cons_append, List.map_cons, List.map_nil, List.length_cons, List.length_nil, List.set_cons_zero, List.set_cons_succ, List.take_succ_cons, List.take_zero, List.take_nil, List.drop_succ_cons, List.drop_zero, List.drop_nil, List.append_nil, List.all_cons, List.all_nil, Bool.and_true, Bool.true_and, Bool.and_false, Bool.false_and, Nat.reduceAdd, Nat.zero_add, Nat.add_zero, Nat.reduceEqDiff, if_true, if_false, reduceIte]))
    | (show SQ _ _ _ _ _ _ _ _; first | apply sq_nil | (apply q_move; exact rfl; exact rfl) | (apply q_assign; exact rfl; exact rfl) | (apply q_add; exact rfl; exact rfl; exact rfl))
    | (show SQ _ _ _ _ _ _ _ _; (first | (apply q_box; exact rfl; exact rfl; exact rfl)); (try simp only [put, rowsOf, plR, List.all_cons, selE, ovr, setH, del, cellsA, splice, isV, List.nil_append, List.cons_append, List.map_cons, List.map_nil, List.length_cons, List.length_nil, List.set_cons_zero, List.set_cons_succ, List.take_succ_cons, List.take_zero, List.take_nil, List.drop_succ_cons, List.drop_zero, List.drop_nil, List.append_nil, List.all_cons, List.all_nil, Bool.and_true, Bool.true_and, Bool.and_false, Bool.false_and, Nat.reduceAdd, Nat.zero_add, Nat.add_zero, Nat.reduceEqDiff, if_true, if_false, reduceIte]))
    | (show DE _ _ _ _ _ _ _ _ _ _ _ _; first | (apply e_move; exact rfl; exact rfl; exact rfl) | (apply e_assign; exact rfl; exact rfl; exact rfl) | (apply e_fieldAddr; exact rfl; exact rfl; exact (ty rfl); exact rfl; exact rfl; exact rfl; exact rfl; exact rfl) | (apply e_not; exact rfl; exact rfl; exact rfl) | (apply e_ixd; exact rfl; exact rfl; exact rfl; exact (ty rfl); exact rfl; exact (by first | omega | (simp; done) | (simp; omega)); exact (by first | omega | (simp; done) | (simp; omega)); exact (by first | rfl | assumption); exact rfl) | (apply e_ld1d; exact rfl; exact rfl; exact (ty rfl); exact rfl; exact rfl; exact rfl))
    | (show DE _ _ _ _ _ _ _ _ _ _ _ _; (first | (apply dr_nil; exact trivial) | (apply e_ldad; exact rfl; exact rfl; exact (ty rfl); exact rfl; exact rfl; exact rfl) | (apply e_callU; exact rfl; exact rfl; exact rfl; exact FzL.of rfl; exact hC _; exact rfl) | (apply e_callU; exact rfl; exact rfl; exact rfl; exact FzL.of rfl; exact hCo _; exact rfl)); (try simp only [put, rowsOf, plR, List.all_cons, selE, ovr, setH, del, cellsA, splice, isV, List.nil_append, List.cons_append, List.map_cons, List.map_nil, List.length_cons, List.length_nil, List.set_cons_zero, List.set_cons_succ, List.take_succ_cons, List.take_zero, List.take_nil, List.drop_succ_cons, List.drop_zero, List.drop_nil, List.append_nil, List.all_cons, List.all_nil, Bool.and_true, Bool.true_and, Bool.and_false, Bool.false_and, Nat.reduceAdd, Nat.zero_add, Nat.add_zero, Nat.reduceEqDiff, if_true, if_false, reduceIte]))
    | (show AW _ _ _ _ _ _ _ _; first | refine aw_region ?_ | (refine aw_seqk ?_; intro K hK) | (apply aw_cond_t; exact rfl; exact rfl) | refine aw_ret ?_ | refine aw_drawE (id := 1) [0, 0, 0, 0, 0, 24, 56, 127, 255] [1, 0, 0, 0, 0, 0, 1, 1, 0] mixed (by kernel_rfl) ?_ | refine aw_drawE (id := 2) [0, 1, 0, 7, 15, 0, 0, 96, 224, 511, 1023] [0, 1, 0, 0, 1, 0, 0, 0, 1, 1, 0] mixed (by kernel_rfl) ?_)
    | refine thn_n ?_
    | (refine hK _ _ _ ?_; clear hK K))); all_goals (repeat (clear hK K)))
    all_goals exact fin_r (fin_i rfl rfl)
set_option maxHeartbeats 4000000 in
theorem vioClosure_ro (ds ap : List (List Int)) (list : List Int) (x : Int) (hS : NbS ds) (hA : NbS ap) (hP : PrF ds ap) (h2 : stB ds list = true) (hx : 0 ≤ x ∧ x < list.length) (k : Nat) :
    RO Try.prog 83 [.v (.int .i64 x), .dptr [.dsl 1 (nbL ds), .dsl 1 (nbL ap)], .dptr [.dsl 1 (list.map inL)]] k (.v (.bool (gdB ds ap list x))) [] k := by
  obtain ⟨i, rfl⟩ : ∃ i : Nat, x = i := ⟨x.toNat, by omega⟩
  have hB := badness_ro ds ap list i hS hA hP h2 (by omega)
  have hn := hP.n
  obtain ⟨hl, hv⟩ := stB_in h2
  have hle := cfN_le ap list i (list.getD i 0) list.length
  have e : (bdV ds ap list i == 0) = gdB ds ap list (i : Int) := by
    unfold bdV gdB
    rw [Int.toNat_natCast]
    cases hd : ((ds.getD i []).any fun y => y == list.getD i 0) with
    | true => rw [if_pos rfl, Bool.true_and, Bool.eq_iff_iff]; simp
    | false =>
      rw [if_neg (by simp), Bool.false_and, IntWalk.i64_in _ (by omega), beq_eq_false_iff_ne]; omega
  refine RO.ofv' Try.func83 Try.ntmps83 rfl (goFn_of Try.func83 rfl (by kernel_rfl)) rfl rfl ?_
  ((repeat' (first
    | (show SQ _ _ _ _ _ _ _ _; first | apply sq_nil | (apply q_move; exact rfl; exact rfl) | (apply q_assign; exact rfl; exact rfl) | (apply q_eql; exact rfl; exact rfl; exact rfl) | (apply q_ld1d; exact rfl; exact rfl; exact (ty rfl); exact rfl; exact rfl))
    | (show SQ _ _ _ _ _ _ _ _; (first | (apply q_ldad; exact rfl; exact rfl; exact (ty rfl); exact rfl; exact rfl) | (apply q_callU; exact rfl; exact rfl; exact rfl; exact FzL.of rfl; exact hB _)); (try simp only [put, rowsOf, plR, List.all_cons, selE, ovr, setH, del, cellsA, splice, isV, List.nil_append, List.cons_append, List.map_cons, List.map_nil, List.length_cons, List.length_nil, List.set_cons_zero, List.set_cons_succ, List.take_succ_cons, List.take_zero, List.take_nil, List.drop_succ_cons, List.drop_zero, List.drop_nil, List.append_nil, List.all_cons, List.all_nil, Bool.and_true, Bool.true_and, Bool.and_false, Bool.false_and, Nat.reduceAdd, Nat.zero_add, Nat.add_zero, Nat.reduceEqDiff, if_true, if_false, reduceIte]))
    | (show AW _ _ _ _ _ _ _ _; first | refine aw_region ?_ | (refine aw_seqk ?_; intro K hK) | refine aw_ret ?_)
    | refine thn_n ?_
    | (refine hK _ _ _ ?_; clear hK K))); all_goals (repeat (clear hK K)))
  all_goals exact fin_r (fin_b rfl e)
set_option maxHeartbeats 4000000 in
theorem items_ro (ds ap : List (List Int)) (hn : ds.length ≤ 24) (k : Nat) : RO Try.prog 82 [.agg [.dsl 1 (nbL ds), .dsl 1 (nbL ap)]] k (.sl k 0 ds.length) [(k, ⟨2, 1, true, (ramp (fun j : Nat => (j : Int)) (List.replicate ds.length 0) ds.length).map inL⟩)] (k + 1) := by
  have hnl := nbL_len ds
  refine RO.ofm (.sl 0 0 ds.length) ([(0, ⟨2, 1, true, (ramp (fun j : Nat => (j : Int)) (List.replicate ds.length 0) ds.length).map inL⟩)]) 1 Try.func82 Try.ntmps82 rfl (goFn_of Try.func82 rfl (by kernel_rfl)) rfl rfl (by simp [renA, renL]) (by simp [shH, renB]) rfl ?_
  ((repeat' (first
    | (show SQ _ _ _ _ _ _ _ _; apply sq_frzp (t := 1); exact rfl; exact rfl; exact (by first | rfl | exact all_noOwn_map (fun _ => rfl) | assumption | exact hclo); exact (by first | rfl | assumption); exact rfl; (try simp only [put, rowsOf, plR, List.all_cons, selE, ovr, setH, del, cellsA, splice, isV, List.nil_append, List.cons_append, List.map_cons, List.map_nil, List.length_cons, List.length_nil, List.set_cons_zero, List.set_cons_succ, List.take_succ_cons, List.take_zero, List.take_nil, List.drop_succ_cons, List.drop_zero, List.drop_nil, List.append_nil, List.all_cons, List.all_nil, Bool.and_true, Bool.true_and, Bool.and_false, Bool.false_and, Nat.reduceAdd, Nat.zero_add, Nat.add_zero, Nat.reduceEqDiff, if_true, if_false, reduceIte]))
    | (show SQ _ _ _ _ _ _ _ _; first | apply sq_nil | (apply q_move; exact rfl; exact rfl) | (apply q_assign; exact rfl; exact rfl) | (apply q_fieldAddr; exact rfl; exact rfl; exact (ty rfl); exact rfl; exact rfl; exact rfl; exact rfl) | (apply q_lend; exact rfl; exact rfl; exact (ty rfl); exact rfl) | (apply q_lenl; exact rfl; exact rfl; exact (ty rfl); exact rfl) | (apply q_ld1d; exact rfl; exact rfl; exact (ty rfl); exact rfl; exact rfl))
    | (show SQ _ _ _ _ _ _ _ _; (first | (apply q_box; exact rfl; exact rfl; exact rfl) | (apply q_mks; exact rfl; exact rfl; exact rfl; exact (ty rfl); exact rfl; exact (by first | omega | (simp; done) | (simp; omega)); exact (by first | omega | (simp; done) | (simp; omega)); exact (by first | omega | (simp; done) | (simp; omega)); exact (by first | omega | (simp; done) | (simp; omega)); exact rfl; exact rfl)); (try simp only [put, rowsOf, plR, List.all_cons, selE, ovr, setH, del, cellsA, splice, isV, List.nil_append, List.cons_append, List.map_cons, List.map_nil, List.length_cons, List.length_nil, List.set_cons_zero, List.set_cons_succ, List.take_succ_cons, List.take_zero, List.take_nil, List.drop_succ_cons, List.drop_zero, List.drop_nil, List.append_nil, List.all_cons, List.all_nil, Bool.and_true, Bool.true_and, Bool.and_false, Bool.false_and, Nat.reduceAdd, Nat.zero_add, Nat.add_zero, Nat.reduceEqDiff, if_true, if_false, reduceIte]))
    | (show AW _ _ _ _ _ _ _ _; first | refine aw_region ?_ | (refine aw_seqk ?_; intro K hK) | refine aw_block ?_)
    | refine thn_n ?_
    | (refine hK _ _ _ ?_; clear hK K))); all_goals (repeat (clear hK K)))
  refine aw_loop (ρ := id) (ι := Nat) (fun i => ([(11, .v (.int .i64 i)), (10, .v (.int .i64 (ds.length : Nat))), (3, .sl 1 0 ds.length)], [(1, ⟨2, 1, true, (ramp (fun j : Nat => (j : Int)) (List.replicate ds.length 0) i).map inL⟩)], 2))
    (fun i => i ≤ ds.length) (fun i => ds.length - i) 0 (Nat.zero_le _) ⟨⟨lk_i rfl rfl, lk_i rfl (by simp [nbL]), lk_s rfl rfl (by simp [nbL]) rfl, trivial⟩, ⟨lkb rfl rfl rfl (by (try dsimp only); simp only [ramp_zero, List.length_map, List.map_replicate, Int.toNat_natCast, nbL]; rfl) rfl, trivial⟩, by rfl, pin_0⟩ ?_
  intro i hi
  have hrl : (ramp (fun j : Nat => (j : Int)) (List.replicate ds.length 0) i).length = ds.length := by simp [ramp]; omega
  have hrm : ((ramp (fun j : Nat => (j : Int)) (List.replicate ds.length 0) i).map inL).length = ds.length := by rw [List.length_map, hrl]
  by_cases c2 : i < ds.length
  · have b1 : decide ((i : Int) < (ds.length : Int)) = true := by simpa using c2
    have hw : IntKind.i64.wrap ((i : Int) + 1) = ((i + 1 : Nat) : Int) := by rw [IntWalk.i64_in _ (by omega)]; omega
    have hrow : ((ramp (fun j : Nat => (j : Int)) (List.replicate ds.length 0) i).map inL)[0 + ((i : Int)).toNat]? = some (inL ((ramp (fun j : Nat => (j : Int)) (List.replicate ds.length 0) i).getD i 0)) := by
      simp [List.getD, show i < (ramp (fun j : Nat => (j : Int)) (List.replicate ds.length 0) i).length by omega]
    rw [inL_eq] at hrow
    have hst : ((ramp (fun j : Nat => (j : Int)) (List.replicate ds.length 0) i).map inL).set i [.v (.int .i64 (i : Int))] = (ramp (fun j : Nat => (j : Int)) (List.replicate ds.length 0) (i + 1)).map inL := by
      rw [← ramp_set (by rw [List.length_replicate]; exact c2), List.map_set]; rfl
    ((repeat' (first
    | (show SQ _ _ _ _ _ _ _ _; first | apply sq_nil | (apply q_move; exact rfl; exact rfl) | (apply q_assign; exact rfl; exact rfl) | (apply q_add; exact rfl; exact rfl; exact rfl) | (apply q_lss; exact rfl; exact rfl; exact rfl) | (apply q_ixl; exact rfl; exact rfl; exact rfl; exact (ty rfl); exact rfl; exact rfl; exact rfl; exact (by first | omega | (simp; done) | (simp; omega)); exact (by first | omega | (simp; done) | (simp; omega))))
    | (show SQ _ _ _ _ _ _ _ _; (first | (apply q_store; exact rfl; exact rfl; exact (ty rfl); exact rfl; exact (by first | rfl | assumption | ((try simp only [Nat.zero_add]); refine List.getElem?_set_self ?_; (try simp only [List.length_set]); assumption)); exact rfl; exact rfl; exact rfl)); (try simp only [put, rowsOf, plR, List.all_cons, selE, ovr, setH, del, cellsA, splice, isV, List.nil_append, List.cons_append, List.map_cons, List.map_nil, List.length_cons, List.length_nil, List.set_cons_zero, List.set_cons_succ, List.take_succ_cons, List.take_zero, List.take_nil, List.drop_succ_cons, List.drop_zero, List.drop_nil, List.append_nil, List.all_cons, List.all_nil, Bool.and_true, Bool.true_and, Bool.and_false, Bool.false_and, Nat.reduceAdd, Nat.zero_add, Nat.add_zero, Nat.reduceEqDiff, if_true, if_false, reduceIte]))
    | (show AW _ _ _ _ _ _ _ _; first | refine aw_region ?_ | (refine aw_seqk ?_; intro K hK) | refine aw_block ?_ | (apply aw_cond_t; exact rfl; exact (by assumption)) | refine aw_skip ?_)
    | refine thn_n ?_
    | (refine hK _ _ _ ?_; clear hK K)
    | refine inb_n ?_)); all_goals (repeat (clear hK K)))
    all_goals (refine ⟨i + 1, id, c2, by omega, ?_⟩; (try dsimp only); rw [← hst, ← hw]; exact ⟨by (repeat (refine ⟨by first | exact lk_i rfl rfl | exact lk_s rfl rfl rfl rfl, ?_⟩)); exact trivial, by (repeat (refine ⟨by first | exact ⟨rfl, rfl, rfl⟩, ?_⟩)); exact trivial, by rfl, by exact pin_0⟩)
  · have b1 : decide ((i : Int) < (ds.length : Int)) = false := by simpa using c2
    obtain rfl : i = ds.length := by omega
    ((repeat' (first
    | (show SQ _ _ _ _ _ _ _ _; first | apply sq_nil | (apply q_move; exact rfl; exact rfl) | (apply q_assign; exact rfl; exact rfl) | (apply q_lss; exact rfl; exact rfl; exact rfl))
    | (show AW _ _ _ _ _ _ _ _; first | refine aw_region ?_ | (refine aw_seqk ?_; intro K hK) | (apply aw_cond_f; exact rfl; exact (by assumption)) | refine aw_ret ?_ | refine aw_exit ?_)
    | refine thn_n ?_
    | (refine hK _ _ _ ?_; clear hK K)
    | refine thn_e ?_
    | refine inb_same ?_
    | (clear hK K; refine hK _ _ _ ?_; clear hK K))); all_goals (repeat (clear hK K)))
    all_goals exact fin_r (fin_m rfl rfl _ _ rfl rfl)
set_option maxHeartbeats 4000000 in
theorem DeleteFunc_rc (ds ap : List (List Int)) (list : List Int) (hS : NbS ds) (hA : NbS ap) (hP : PrF ds ap) (h2 : stB ds list = true) (xs : List Int) (hx : ∀ x ∈ xs, 0 ≤ x ∧ x < list.length) (hn : xs.length ≤ 1048576) (k bi : Nat) :
    RC Try.prog 81 [.sl bi 0 xs.length, .fn 83 [.dptr [.dsl 1 (nbL ds), .dsl 1 (nbL ap)], .dptr [.dsl 1 (list.map inL)]]] [(bi, ⟨2, 1, true, xs.map inL⟩)] k (.sl bi 0 ((xs.filter fun x => !gdB ds ap list x)).length)
      [(bi, some ⟨2, 1, true, ((xs.filter fun x => !gdB ds ap list x)).map inL ++ List.replicate (xs.length - ((xs.filter fun x => !gdB ds ap list x)).length) [.v (.int .i64 0)]⟩)] k := by
  have hI := IndexFuncInt_ro xs (xs.map inL) 83 [.dptr [.dsl 1 (nbL ds), .dsl 1 (nbL ap)], .dptr [.dsl 1 (list.map inL)]] (gdB ds ap list) rfl (fun H => FzL.of rfl) rfl (fun x hxx m => vioClosure_ro ds ap list x hS hA hP h2 (hx x hxx) m) hn
  have hml : (xs.map inL).length = xs.length := List.length_map _
  refine RC.ofc [bi] 0 [.sl 0 0 xs.length, .fn 83 [.dptr [.dsl 1 (nbL ds), .dsl 1 (nbL ap)], .dptr [.dsl 1 (list.map inL)]]] [(0, ⟨2, 1, true, xs.map inL⟩)] (.sl 0 0 ((xs.filter fun x => !gdB ds ap list x)).length) [(0, some ⟨2, 1, true, ((xs.filter fun x => !gdB ds ap list x)).map inL ++ List.replicate (xs.length - ((xs.filter fun x => !gdB ds ap list x)).length) [.v (.int .i64 0)]⟩)] Try.func81 Try.ntmps81 rfl (goFn_of Try.func81 rfl (by kernel_rfl)) rfl rfl rfl rfl rfl rfl rfl rfl (by simp_all) rfl ?_
  rcases ixG_split (gdB ds ap list) xs with ⟨e, hall⟩ | ⟨q, hq, e, hbef, hat⟩
  · have ho : (xs.filter fun x => !gdB ds ap list x) = xs := List.filter_eq_self.2 fun x hx => by have := hall x hx; rw [this]; rfl
    have b1 : (ixG (gdB ds ap list) xs == -1) = true := by rw [e]; rfl
    ((repeat' (first
    | (show SQ _ _ _ _ _ _ _ _; first | apply sq_nil | (apply q_move; exact rfl; exact rfl) | (apply q_assign; exact rfl; exact rfl) | (apply q_eql; exact rfl; exact rfl; exact rfl))
    | (show SQ _ _ _ _ _ _ _ _; (first | (apply q_callU; exact rfl; exact rfl; exact rfl; rotate_left; exact hI _; rotate_right; focus ((repeat' (first | exact FzL.nil | exact (by assumption : FzC _) _ | refine FzL.cons ?_ ?_ | exact Fz.of rfl | exact Fz.nil | exact Fz.emp | (apply Fz.fnC; assumption) | (apply Fz.sl2; exact rfl; exact (by first | omega | (simp; done) | (simp; omega)); first | exact rfl | exact dt_full (by first | omega | (simp; done) | (simp; omega)) | assumption) | apply Fz.agg | (apply Fz.ptrL; exact rfl; first | exact rfl | assumption) | apply Fz.fnL)); done))); (try simp only [put, rowsOf, plR, List.all_cons, selE, ovr, setH, del, cellsA, splice, isV, List.nil_append, List.cons_append, List.map_cons, List.map_nil, List.length_cons, List.length_nil, List.set_cons_zero, List.set_cons_succ, List.take_succ_cons, List.take_zero, List.take_nil, List.drop_succ_cons, List.drop_zero, List.drop_nil, List.append_nil, List.all_cons, List.all_nil, Bool.and_true, Bool.true_and, Bool.and_false, Bool.false_and, Nat.reduceAdd, Nat.zero_add, Nat.add_zero, Nat.reduceEqDiff, if_true, if_false, reduceIte]))
    | (show AW _ _ _ _ _ _ _ _; first | refine aw_region ?_ | (refine aw_seqk ?_; intro K hK) | (apply aw_cond_t; exact rfl; exact (by assumption)) | refine aw_ret ?_)
    | refine thn_n ?_
    | (refine hK _ _ _ ?_; clear hK K)
    | refine thn_r ?_)); all_goals (repeat (clear hK K)))
    rw [ho, Nat.sub_self, List.replicate_zero, List.append_nil]
    all_goals exact finc (fun z => z) (.r1 _ _ (.tmp _ _ rfl)) (by simp only [renA]) (fun _ _ => rfl) ⟨rfl, trivial⟩ rfl
  · have b1 : (ixG (gdB ds ap list) xs == -1) = false := by rw [e]; simp
    have e0 : dfK (gdB ds ap list) xs (q + 1) = xs.take q := by rw [dfK_yes hq hat, dfK_pre hbef]
    have e1 : dfR (gdB ds ap list) xs (q + 1) = xs := by
      unfold dfR; rw [e0, List.length_take, Nat.min_eq_left (by omega), List.take_append_drop]
    have hw1 : IntKind.i64.wrap ((q : Int) + 1) = ((q + 1 : Nat) : Int) := by rw [IntWalk.i64_in _ (by omega)]; omega
    rw [e] at hI
    ((repeat' (first
    | (show SQ _ _ _ _ _ _ _ _; first | apply sq_nil | (apply q_move; exact rfl; exact rfl) | (apply q_assign; exact rfl; exact rfl) | (apply q_add; exact rfl; exact rfl; exact rfl) | (apply q_eql; exact rfl; exact rfl; exact rfl))
    | (show SQ _ _ _ _ _ _ _ _; (first | (apply q_callU; exact rfl; exact rfl; exact rfl; rotate_left; exact hI _; rotate_right; focus ((repeat' (first | exact FzL.nil | exact (by assumption : FzC _) _ | refine FzL.cons ?_ ?_ | exact Fz.of rfl | exact Fz.nil | exact Fz.emp | (apply Fz.fnC; assumption) | (apply Fz.sl2; exact rfl; exact (by first | omega | (simp; done) | (simp; omega)); first | exact rfl | exact dt_full (by first | omega | (simp; done) | (simp; omega)) | assumption) | apply Fz.agg | (apply Fz.ptrL; exact rfl; first | exact rfl | assumption) | apply Fz.fnL)); done))); (try simp only [put, rowsOf, plR, List.all_cons, selE, ovr, setH, del, cellsA, splice, isV, List.nil_append, List.cons_append, List.map_cons, List.map_nil, List.length_cons, List.length_nil, List.set_cons_zero, List.set_cons_succ, List.take_succ_cons, List.take_zero, List.take_nil, List.drop_succ_cons, List.drop_zero, List.drop_nil, List.append_nil, List.all_cons, List.all_nil, Bool.and_true, Bool.true_and, Bool.and_false, Bool.false_and, Nat.reduceAdd, Nat.zero_add, Nat.add_zero, Nat.reduceEqDiff, if_true, if_false, reduceIte]))
    | (show AW _ _ _ _ _ _ _ _; first | refine aw_region ?_ | (refine aw_seqk ?_; intro K hK) | refine aw_block ?_ | (apply aw_cond_f; exact rfl; exact rfl) | refine aw_skip ?_)
    | refine thn_n ?_
    | (refine hK _ _ _ ?_; clear hK K))); all_goals (repeat (clear hK K)))
    refine aw_loop (ρ := fun z => z) (ι := Nat) (fun j => ([(6, .v (.int .i64 j)), (5, .v (.int .i64 (dfK (gdB ds ap list) xs j).length)), (1, .fn 83 [.dptr [.dsl 1 (nbL ds), .dsl 1 (nbL ap)], .dptr [.dsl 1 (list.map inL)]]), (0, .sl 0 0 xs.length)], [(0, ⟨2, 1, true, (dfR (gdB ds ap list) xs j).map inL⟩)], 1))
      (fun j => j ≤ xs.length ∧ q < j) (fun j => xs.length - j) (q + 1) ⟨by omega, by omega⟩ (by rw [e0, e1, List.length_take, Nat.min_eq_left (by omega), ← hw1]; exact ⟨by (repeat (refine ⟨by first | exact lk_i rfl rfl | exact lk_s rfl rfl rfl rfl | exact lk_f rfl, ?_⟩)); exact trivial, by (repeat (refine ⟨by first | exact ⟨rfl, rfl, rfl⟩, ?_⟩)); exact trivial, by rfl, by (intro i hi; (try dsimp only); refine ⟨?_, ?_⟩ <;> first | rfl | omega | (simp at hi; omega) | (simp; omega))⟩) ?_
    rintro j ⟨hj, hqj⟩
    have hKl := dfK_len (gdB ds ap list) xs j
    have hRl := dfR_len (gdB ds ap list) xs j
    have hRm : ((dfR (gdB ds ap list) xs j).map inL).length = xs.length := by rw [List.length_map, hRl]
    by_cases c1 : j < xs.length
    · have b2 : decide ((j : Int) < (xs.length : Int)) = true := by simpa using c1
      have hrow : ((dfR (gdB ds ap list) xs j).map inL)[0 + ((j : Int)).toNat]? = some (inL xs[j]) := by
        rw [List.getElem?_map, show 0 + ((j : Int)).toNat = j by omega, dfR_get c1]; rfl
      rw [inL_eq] at hrow
      have hC := vioClosure_ro ds ap list xs[j] hS hA hP h2 (hx _ (List.getElem_mem c1))
      have hw2 : IntKind.i64.wrap ((j : Int) + 1) = ((j + 1 : Nat) : Int) := by rw [IntWalk.i64_in _ (by omega)]; omega
      cases hp : (gdB ds ap list xs[j]) with
      | true =>
        rw [hp] at hC
        have f1 := dfK_yes (p := gdB ds ap list) c1 hp
        have f2 := dfR_same (p := gdB ds ap list) c1 hp
        ((repeat' (first
    | (show SQ _ _ _ _ _ _ _ _; first | apply sq_nil | (apply q_move; exact rfl; exact rfl) | (apply q_assign; exact rfl; exact rfl) | (apply q_not; exact rfl; exact rfl) | (apply q_lenl; exact rfl; exact rfl; exact (ty rfl); exact rfl) | (apply q_add; exact rfl; exact rfl; exact rfl) | (apply q_lss; exact rfl; exact rfl; exact rfl) | (apply q_ixl; exact rfl; exact rfl; exact rfl; exact (ty rfl); exact rfl; exact rfl; exact rfl; exact (by first | omega | (simp; done) | (simp; omega)); exact (by first | omega | (simp; done) | (simp; omega))) | (apply q_ld1p; exact rfl; exact rfl; exact (ty rfl); exact rfl; exact rfl; exact (by first | rfl | assumption | ((try simp only [Nat.zero_add]); refine List.getElem?_set_self ?_; (try simp only [List.length_set]); assumption)); exact rfl))
    | (show SQ _ _ _ _ _ _ _ _; (first | (apply q_callU; exact rfl; exact rfl; exact rfl; exact FzL.of rfl; exact hC _)); (try simp only [put, rowsOf, plR, List.all_cons, selE, ovr, setH, del, cellsA, splice, isV, List.nil_append, List.cons_append, List.map_cons, List.map_nil, List.length_cons, List.length_nil, List.set_cons_zero, List.set_cons_succ, List.take_succ_cons, List.take_zero, List.take_nil, List.drop_succ_cons, List.drop_zero, List.drop_nil, List.append_nil, List.all_cons, List.all_nil, Bool.and_true, Bool.true_and, Bool.and_false, Bool.false_and, Nat.reduceAdd, Nat.zero_add, Nat.add_zero, Nat.reduceEqDiff, if_true, if_false, reduceIte]))
    | (show AW _ _ _ _ _ _ _ _; first | refine aw_region ?_ | (refine aw_seqk ?_; intro K hK) | refine aw_block ?_ | (apply aw_cond_f; exact rfl; exact rfl) | (apply aw_cond_t; exact rfl; exact (by assumption)) | refine aw_skip ?_)
    | refine thn_n ?_
    | (refine hK _ _ _ ?_; clear hK K)
    | refine inb_n ?_)); all_goals (repeat (clear hK K)))
        all_goals (refine ⟨j + 1, fun z => z, ⟨c1, by omega⟩, by omega, ?_⟩; (try dsimp only); rw [f1, f2, ← hw2]; exact ⟨by (repeat (refine ⟨by first | exact lk_i rfl rfl | exact lk_s rfl rfl rfl rfl | exact lk_f rfl, ?_⟩)); exact trivial, by (repeat (refine ⟨by first | exact ⟨rfl, rfl, rfl⟩, ?_⟩)); exact trivial, by rfl, by (intro i hi; (try dsimp only); refine ⟨?_, ?_⟩ <;> first | rfl | omega | (simp at hi; omega) | (simp; omega))⟩)
      | false =>
        rw [hp] at hC
        have f1 := dfK_no (p := gdB ds ap list) c1 hp
        have f1l : (dfK (gdB ds ap list) xs (j + 1)).length = (dfK (gdB ds ap list) xs j).length + 1 := by rw [f1]; simp
        have f2 := dfR_set (p := gdB ds ap list) c1 hp
        have hw3 : IntKind.i64.wrap (((dfK (gdB ds ap list) xs j).length : Int) + 1) = (((dfK (gdB ds ap list) xs j).length + 1 : Nat) : Int) := by rw [IntWalk.i64_in _ (by omega)]; omega
        have hKq : (dfK (gdB ds ap list) xs j).length < xs.length := by omega
        have hrow3 : ((dfR (gdB ds ap list) xs j).map inL)[0 + (((dfK (gdB ds ap list) xs j).length : Int)).toNat]? = some (inL xs[(dfK (gdB ds ap list) xs j).length]) := by
          rw [List.getElem?_map, show 0 + (((dfK (gdB ds ap list) xs j).length : Int)).toNat = (dfK (gdB ds ap list) xs j).length by omega, dfR, List.getElem?_append_right (Nat.le_refl _), Nat.sub_self, List.getElem?_drop]
          simp [hKq]
        rw [inL_eq] at hrow3
        have hlen : (((dfK (gdB ds ap list) xs j).length : Int)).toNat < ((dfR (gdB ds ap list) xs j).map inL).length := by omega
        have hst : ((dfR (gdB ds ap list) xs j).map inL).set (dfK (gdB ds ap list) xs j).length [.v (.int .i64 xs[j])] = (dfR (gdB ds ap list) xs (j + 1)).map inL := by rw [← f2, List.map_set]; rfl
        ((repeat' (first
    | (show SQ _ _ _ _ _ _ _ _; first | apply sq_nil | (apply q_move; exact rfl; exact rfl) | (apply q_assign; exact rfl; exact rfl) | (apply q_not; exact rfl; exact rfl) | (apply q_lenl; exact rfl; exact rfl; exact (ty rfl); exact rfl) | (apply q_add; exact rfl; exact rfl; exact rfl) | (apply q_lss; exact rfl; exact rfl; exact rfl) | (apply q_ixl; exact rfl; exact rfl; exact rfl; exact (ty rfl); exact rfl; exact rfl; exact rfl; exact (by first | omega | (simp; done) | (simp; omega)); exact (by first | omega | (simp; done) | (simp; omega))) | (apply q_ld1p; exact rfl; exact rfl; exact (ty rfl); exact rfl; exact rfl; exact (by first | rfl | assumption | ((try simp only [Nat.zero_add]); refine List.getElem?_set_self ?_; (try simp only [List.length_set]); assumption)); exact rfl))
    | (show SQ _ _ _ _ _ _ _ _; (first | (apply q_store; exact rfl; exact rfl; exact (ty rfl); exact rfl; exact (by first | rfl | assumption | ((try simp only [Nat.zero_add]); refine List.getElem?_set_self ?_; (try simp only [List.length_set]); assumption)); exact rfl; exact rfl; exact rfl) | (apply q_callU; exact rfl; exact rfl; exact rfl; exact FzL.of rfl; exact hC _)); (try simp only [put, rowsOf, plR, List.all_cons, selE, ovr, setH, del, cellsA, splice, isV, List.nil_append, List.cons_append, List.map_cons, List.map_nil, List.length_cons, List.length_nil, List.set_cons_zero, List.set_cons_succ, List.take_succ_cons, List.take_zero, List.take_nil, List.drop_succ_cons, List.drop_zero, List.drop_nil, List.append_nil, List.all_cons, List.all_nil, Bool.and_true, Bool.true_and, Bool.and_false, Bool.false_and, Nat.reduceAdd, Nat.zero_add, Nat.add_zero, Nat.reduceEqDiff, if_true, if_false, reduceIte]))
    | (show AW _ _ _ _ _ _ _ _; first | refine aw_region ?_ | (refine aw_seqk ?_; intro K hK) | refine aw_block ?_ | (apply aw_cond_t; exact rfl; exact rfl) | (apply aw_cond_t; exact rfl; exact (by assumption)) | refine aw_skip ?_)
    | refine thn_n ?_
    | (refine hK _ _ _ ?_; clear hK K)
    | refine inb_n ?_)); all_goals (repeat (clear hK K)))
        all_goals (refine ⟨j + 1, fun z => z, ⟨c1, by omega⟩, by omega, ?_⟩; (try dsimp only); rw [f1l, ← hst, ← hw2, ← hw3]; exact ⟨by (repeat (refine ⟨by first | exact lk_i rfl rfl | exact lk_s rfl rfl rfl rfl | exact lk_f rfl, ?_⟩)); exact trivial, by (repeat (refine ⟨by first | exact ⟨rfl, rfl, rfl⟩, ?_⟩)); exact trivial, by rfl, by (intro i hi; (try dsimp only); refine ⟨?_, ?_⟩ <;> first | rfl | omega | (simp at hi; omega) | (simp; omega))⟩)
    · have b2 : decide ((j : Int) < (xs.length : Int)) = false := by simpa using c1
      obtain rfl : j = xs.length := by omega
      have hKe : dfK (gdB ds ap list) xs xs.length = (xs.filter fun x => !gdB ds ap list x) := dfK_full _ _
      have hRe : dfR (gdB ds ap list) xs xs.length = (xs.filter fun x => !gdB ds ap list x) ++ xs.drop ((xs.filter fun x => !gdB ds ap list x)).length := by unfold dfR; rw [hKe]
      rw [hKe] at hKl ⊢
      rw [hRe] at hRm hRl ⊢
      generalize (xs.filter fun x => !gdB ds ap list x) = ys at *
      have hfin : List.take ys.length ((ys ++ xs.drop ys.length).map inL) ++ List.replicate (xs.length - ys.length) [AV.v (.int .i64 0)] ++ List.drop (ys.length + (xs.length - ys.length)) ((ys ++ xs.drop ys.length).map inL) = ys.map inL ++ List.replicate (xs.length - ys.length) [AV.v (.int .i64 0)] := by
        have e5 : List.drop (ys.length + (xs.length - ys.length)) ((ys ++ xs.drop ys.length).map inL) = [] := List.drop_eq_nil_of_le (by rw [hRm]; omega)
        rw [e5, List.append_nil, List.map_append, List.take_left' (by simp)]
      ((repeat' (first
    | (show SQ _ _ _ _ _ _ _ _; first | apply sq_nil | (apply q_move; exact rfl; exact rfl) | (apply q_assign; exact rfl; exact rfl) | (apply q_lenl; exact rfl; exact rfl; exact (ty rfl); exact rfl) | (apply q_lss; exact rfl; exact rfl; exact rfl) | (apply q_ssl_h; exact rfl; exact rfl; exact rfl; exact (ty rfl); exact rfl; exact rfl; exact (by first | omega | (simp; done) | (simp; omega)); exact (by first | omega | (simp; done) | (simp; omega)); exact (by first | omega | (simp; done) | (simp; omega))) | (apply q_ssl_l; exact rfl; exact rfl; exact rfl; exact (ty rfl); exact rfl; exact rfl; exact (by first | omega | (simp; done) | (simp; omega)); exact (by first | omega | (simp; done) | (simp; omega)); exact (by first | omega | (simp; done) | (simp; omega))))
    | (show SQ _ _ _ _ _ _ _ _; (first | (apply q_clrs; exact rfl; exact rfl; exact (ty rfl); exact rfl; exact rfl; exact (by first | omega | (simp; done) | (simp; omega)); exact rfl; exact rfl)); (try simp only [put, rowsOf, plR, List.all_cons, selE, ovr, setH, del, cellsA, splice, isV, List.nil_append, List.cons_append, List.map_cons, List.map_nil, List.length_cons, List.length_nil, List.set_cons_zero, List.set_cons_succ, List.take_succ_cons, List.take_zero, List.take_nil, List.drop_succ_cons, List.drop_zero, List.drop_nil, List.append_nil, List.all_cons, List.all_nil, Bool.and_true, Bool.true_and, Bool.and_false, Bool.false_and, Nat.reduceAdd, Nat.zero_add, Nat.add_zero, Nat.reduceEqDiff, if_true, if_false, reduceIte]))
    | (show AW _ _ _ _ _ _ _ _; first | refine aw_region ?_ | (refine aw_seqk ?_; intro K hK) | (apply aw_cond_f; exact rfl; exact (by assumption)) | refine aw_ret ?_ | refine aw_exit ?_)
    | refine thn_n ?_
    | (refine hK _ _ _ ?_; clear hK K)
    | refine thn_e ?_
    | refine inb_same ?_
    | (clear hK K; refine hK _ _ _ ?_; clear hK K))); all_goals (repeat (clear hK K)))
      all_goals refine finc (fun z => z) (.r1 _ _ (.tmp _ _ rfl)) (by simp only [renA]; rfl) (fun _ _ => rfl) ⟨?_, trivial⟩ rfl
      rw [← hfin]; rfl
def vioL (ds ap : List (List Int)) (list : List Int) : List Int := ((List.range ds.length).map fun j : Nat => (j : Int)).filter fun x => !gdB ds ap list x
set_option maxHeartbeats 4000000 in
theorem Violating_ro (ds ap : List (List Int)) (list : List Int) (hS : NbS ds) (hA : NbS ap) (h : prB ds ap = true) (h2 : stB ds list = true) (k : Nat) :
    RO Try.prog 37 [.agg [.dsl 1 (nbL ds), .dsl 1 (nbL ap)], .dsl 1 (list.map inL)] k (.tup [.sl k 0 (vioL ds ap list).length, .v (.int .i64 0)]) [(k, ⟨2, 1, true, (vioL ds ap list).map inL ++ List.replicate (ds.length - (vioL ds ap list).length) [.v (.int .i64 0)]⟩)] (k + 1) := by
  obtain ⟨hl, hv⟩ := stB_in h2
  have hP := PrF.of h
  have hn := hP.n
  have hV := stateCode_ro ds ap list hS hA (by omega)
  rw [if_neg (by rw [h]; simp), if_neg (by rw [h2]; simp)] at hV
  have hI := items_ro ds ap hn
  have hrf : ramp (fun j : Nat => (j : Int)) (List.replicate ds.length 0) ds.length = (List.range ds.length).map fun j : Nat => (j : Int) := by
    have := ramp_full (f := fun j : Nat => (j : Int)) (xs := List.replicate ds.length 0)
    simp only [List.length_replicate] at this; exact this
  rw [hrf] at hI
  have hxl : ((List.range ds.length).map fun j : Nat => (j : Int)).length = ds.length := by simp
  have hD := fun bi k => DeleteFunc_rc ds ap list hS hA hP h2 ((List.range ds.length).map fun j : Nat => (j : Int)) (fun x hx => by
    obtain ⟨j, hj, rfl⟩ := List.mem_map.1 hx
    have := List.mem_range.1 hj
    omega) (by rw [hxl]; omega) k bi
  rw [hxl] at hD
  change ∀ bi k, RC _ _ _ _ _ (.sl bi 0 (vioL ds ap list).length) [(bi, some ⟨_, _, _, (vioL ds ap list).map inL ++ List.replicate (ds.length - (vioL ds ap list).length) _⟩)] _ at hD
  generalize vioL ds ap list = V at *
  generalize (List.range ds.length).map (fun j : Nat => (j : Int)) = xs at *
  refine RO.ofm (.tup [.sl 0 0 V.length, .v (.int .i64 0)]) ([(0, ⟨2, 1, true, V.map inL ++ List.replicate (ds.length - V.length) [.v (.int .i64 0)]⟩)]) 1 Try.func37 Try.ntmps37 rfl (goFn_of Try.func37 rfl (by kernel_rfl)) rfl rfl (by simp [renA, renL]) (by simp [shH, renB]) rfl ?_
  ((repeat' (first
    | (show SQ _ _ _ _ _ _ _ _; apply sq_frzp (t := 2); exact rfl; exact rfl; exact (by first | rfl | exact all_noOwn_map (fun _ => rfl) | assumption | exact hclo); exact (by first | rfl | assumption); exact rfl; (try simp only [put, rowsOf, plR, List.all_cons, selE, ovr, setH, del, cellsA, splice, isV, List.nil_append, List.cons_append, List.map_cons, List.map_nil, List.length_cons, List.length_nil, List.set_cons_zero, List.set_cons_succ, List.take_succ_cons, List.take_zero, List.take_nil, List.drop_succ_cons, List.drop_zero, List.drop_nil, List.append_nil, List.all_cons, List.all_nil, Bool.and_true, Bool.true_and, Bool.and_false, Bool.false_and, Nat.reduceAdd, Nat.zero_add, Nat.add_zero, Nat.reduceEqDiff, if_true, if_false, reduceIte]))
    | (show SQ _ _ _ _ _ _ _ _; apply sq_frzp (t := 3); exact rfl; exact rfl; exact (by first | rfl | exact all_noOwn_map (fun _ => rfl) | assumption | exact hclo); exact (by first | rfl | assumption); exact rfl; (try simp only [put, rowsOf, plR, List.all_cons, selE, ovr, setH, del, cellsA, splice, isV, List.nil_append, List.cons_append, List.map_cons, List.map_nil, List.length_cons, List.length_nil, List.set_cons_zero, List.set_cons_succ, List.take_succ_cons, List.take_zero, List.take_nil, List.drop_succ_cons, List.drop_zero, List.drop_nil, List.append_nil, List.all_cons, List.all_nil, Bool.and_true, Bool.true_and, Bool.and_false, Bool.false_and, Nat.reduceAdd, Nat.zero_add, Nat.add_zero, Nat.reduceEqDiff, if_true, if_false, reduceIte]))
    | (show SQ _ _ _ _ _ _ _ _; first | apply sq_nil | (apply q_move; exact rfl; exact rfl) | (apply q_assign; exact rfl; exact rfl) | (apply q_neq; exact rfl; exact rfl; exact rfl) | (apply q_ld1d; exact rfl; exact rfl; exact (ty rfl); exact rfl; exact rfl) | (apply q_mkf; exact rfl; exact rfl))
    | (show SQ _ _ _ _ _ _ _ _; (first | (apply q_ldad; exact rfl; exact rfl; exact (ty rfl); exact rfl; exact rfl) | (apply q_box; exact rfl; exact rfl; exact rfl) | (apply q_callU; exact rfl; exact rfl; exact rfl; exact FzL.of rfl; exact hV _) | (apply q_callU; exact rfl; exact rfl; exact rfl; exact FzL.of rfl; exact hI _) | (apply q_callC; exact rfl; exact rfl; exact rfl; exact hD _ _; (focus ((repeat (first | exact trivial | refine ⟨by first | exact rfl | assumption, ?_⟩)); done)); skip)); (try simp only [put, rowsOf, plR, List.all_cons, selE, ovr, setH, del, cellsA, splice, isV, List.nil_append, List.cons_append, List.map_cons, List.map_nil, List.length_cons, List.length_nil, List.set_cons_zero, List.set_cons_succ, List.take_succ_cons, List.take_zero, List.take_nil, List.drop_succ_cons, List.drop_zero, List.drop_nil, List.append_nil, List.all_cons, List.all_nil, Bool.and_true, Bool.true_and, Bool.and_false, Bool.false_and, Nat.reduceAdd, Nat.zero_add, Nat.add_zero, Nat.reduceEqDiff, if_true, if_false, reduceIte]))
    | (show AW _ _ _ _ _ _ _ _; first | refine aw_region ?_ | (refine aw_seqk ?_; intro K hK) | (apply aw_cond_f; exact rfl; exact rfl) | refine aw_ret ?_ | refine aw_skip ?_)
    | refine thn_n ?_
    | (refine hK _ _ _ ?_; clear hK K))); all_goals (repeat (clear hK K)))
  all_goals exact fin_r (fin_m2 rfl rfl rfl _ _ rfl rfl rfl)
end Go.Proofs.Yteknfaldpajlpaa.Nb

namespace Go.Proofs.Yteknfaldpajlpaa.Nb
open Go Go.RowKit Go.Proofs.Yteknfaldpajlpaa.Aw Go.Proofs.Yteknfaldpajlpaa.In Go.Proofs.Yteknfaldpajlpaa.Il
set_option linter.unusedSimpArgs false
set_option linter.unusedVariables false
set_option linter.unusedSectionVars false
attribute [local irreducible] AW SQ Step RO RC DE Thn InB
theorem canon0 {H O : Hp} (ho : subE H O) : ∀ i c, Aw.look O i = some c → Aw.look H i = some c := by
  have := canon1 (b1 := 0) (L1 := []) ho (fun j b h => by simp at h)
  rwa [nst, List.append_nil] at this
end Go.Proofs.Yteknfaldpajlpaa.Nb

namespace Go.Proofs.Yteknfaldpajlpaa.Nb
open Go Go.RowKit Go.Proofs.Yteknfaldpajlpaa.Aw Go.Proofs.Yteknfaldpajlpaa.In Go.Proofs.Yteknfaldpajlpaa.Il
set_option linter.unusedSimpArgs false
set_option linter.unusedVariables false
set_option linter.unusedSectionVars false
attribute [local irreducible] AW SQ Step RO RC DE
section
variable (ds ap : List (List Int)) (list frz : List Int) (hS : NbS ds) (hA : NbS ap) (hn : list.length ≤ 1048576) (hf : frz.length ≤ 1048576)
include hS hA hn hf
end
theorem subH_of {H : Hp} {ρ : Nat → Nat} {n : Nat} : ∀ (U : Hp), (∀ p ∈ U, Aw.look H (ρ p.1) = some (renB ρ p.2) ∧ idsOkB n p.2 = true ∧ p.1 < n) → subH H ρ n U
  | [], _ => trivial
  | p :: U, h => by
    obtain ⟨h1, h2, h3⟩ := h p List.mem_cons_self
    exact ⟨⟨h1, h2, by rw [Nat.blt_eq]; exact h3⟩, subH_of U fun q hq => h q (List.mem_cons_of_mem _ hq)⟩
theorem NstIn.left {base : Nat} {bs : List Blk} {A B : Hp} (h : NstIn A base bs) : NstIn (A ++ B) base bs := fun j c hc => by rw [look_append, h j c hc]; rfl
theorem NstIn.right {base : Nat} {bs : List Blk} {A B : Hp} (hn : ∀ j, j < bs.length → Aw.look A (base + j) = none) (h : NstIn B base bs) : NstIn (A ++ B) base bs := fun j c hc => by rw [look_append, hn j (nlt hc), Option.none_or]; exact h j c hc
end Go.Proofs.Yteknfaldpajlpaa.Nb

namespace Go.Proofs.Yteknfaldpajlpaa.Nb
open Go Go.RowKit Go.Proofs.Yteknfaldpajlpaa.Aw Go.Proofs.Yteknfaldpajlpaa.In Go.Proofs.Yteknfaldpajlpaa.Il
set_option linter.unusedSimpArgs false
set_option linter.unusedVariables false
set_option linter.unusedSectionVars false
attribute [local irreducible] AW SQ Step RO RC DE Thn InB
theorem cfl_sym {ds ap : List (List Int)} {m : List Int} (hP : PrF ds ap) {i j : Nat} (hi : i < ap.length) (hj : j < ap.length) (hne : i ≠ j) : cfl ap m i (m.getD i 0) j = cfl ap m j (m.getD j 0) i := by
  have e : (ap.getD i []).getD j 0 = (ap.getD j []).getD i 0 := by
    rcases Nat.lt_or_gt_of_ne hne with h | h
    · exact (hP.sym j i h hj).symm
    · exact hP.sym i j h hi
  unfold cfl
  rw [e, decide_eq_true (show j ≠ i from hne.symm), decide_eq_true (show i ≠ j from hne), Bool.true_and, Bool.true_and]
  congr 1
  rw [eq_iff_iff]
  constructor <;> intro h <;> omega
theorem fit_at {ap : List (List Int)} {m : List Int} {j : Nat} (hj : j < m.length) : fitB ap (m.take j) (m.getD j 0) = true ↔ ∀ i, i < j → cfl ap m j (m.getD j 0) i = false := by
  have htl : (m.take j).length = j := by rw [List.length_take]; omega
  rw [fitB, htl, beq_iff_eq, cfN_zero]
  have e : ∀ i, i < j → cfl ap (m.take j) j (m.getD j 0) i = cfl ap m j (m.getD j 0) i := fun i hi => by
    have : (m.take j).getD i 0 = m.getD i 0 := by simp only [List.getD]; rw [List.getElem?_take_of_lt hi]
    unfold cfl; rw [this]
  exact ⟨fun h i hi => by rw [← e i hi]; exact h i hi, fun h i hi => by rw [e i hi]; exact h i hi⟩
theorem asg_gd {ds ap : List (List Int)} {m : List Int} (hP : PrF ds ap) (hl : m.length = ds.length) : Asg ds ap m ↔ ∀ i : Nat, i < m.length → gdB ds ap m (i : Int) = true := by
  have ha := hP.a
  constructor
  · intro h i hi
    unfold gdB
    rw [Int.toNat_natCast, (h i hi).1, Bool.true_and, beq_iff_eq, cfN_zero]
    intro j hj
    rcases Nat.lt_trichotomy j i with c | c | c
    · exact (fit_at hi).1 (h i hi).2 j c
    · subst c; unfold cfl; simp
    · rw [cfl_sym hP (by omega) (by omega) (by omega)]
      exact (fit_at hj).1 (h j hj).2 i c
  · intro h i hi
    have := h i hi
    unfold gdB at this
    rw [Int.toNat_natCast, Bool.and_eq_true, beq_iff_eq, cfN_zero] at this
    exact ⟨this.1, (fit_at hi).2 fun j hj => this.2 j (by omega)⟩
theorem vio_nil {ds ap : List (List Int)} {m : List Int} (hP : PrF ds ap) (hl : m.length = ds.length) : (vioL ds ap m).length = 0 ↔ Asg ds ap m := by
  rw [asg_gd hP hl, List.length_eq_zero_iff]
  unfold vioL
  rw [List.filter_eq_nil_iff]
  constructor
  · intro h i hi
    have := h (i : Int) (List.mem_map.2 ⟨i, List.mem_range.2 (by omega), rfl⟩)
    simpa using this
  · intro h x hx
    obtain ⟨i, hi, rfl⟩ := List.mem_map.1 hx
    have := h i (by have := List.mem_range.1 hi; omega)
    simp [this]
theorem chgN_zero {a b : List Int} : ∀ i, chgN a b i = 0 ↔ ∀ j, j < i → a.getD j 0 = b.getD j 0
  | 0 => ⟨fun _ j hj => by omega, fun _ => rfl⟩
  | i + 1 => by
    rw [chgN_succ]
    constructor
    · intro h j hj
      by_cases e : j = i
      · subst e
        by_cases c : a.getD j 0 = b.getD j 0
        · exact c
        · have : (a.getD j 0 != b.getD j 0) = true := by simpa using c
          rw [this] at h; simp at h
      · exact (chgN_zero i).1 (by omega) j (by omega)
    · intro h
      have h1 := (chgN_zero i).2 fun j hj => h j (by omega)
      have : (a.getD i 0 != b.getD i 0) = false := by simpa using h i (by omega)
      rw [h1, this]; rfl
theorem list_of {a b : List Int} (hl : a.length = b.length) (h : ∀ j, j < b.length → a.getD j 0 = b.getD j 0) : a = b := by
  refine List.ext_getElem hl fun i h1 h2 => ?_
  have := h i h2
  simpa [List.getD, h1, h2] using this
def Kp (list frz O : List Int) : Prop := ∀ x ∈ frz, O.getD x.toNat 0 = list.getD x.toNat 0
theorem Kp.gd {ds ap : List (List Int)} {list frz O : List Int} (hk : Kp list frz O) (hl : O.length = list.length) (ha : Asg ds ap O) : Gd ds ap list frz 0 (list.length : Int) [] O := by
  refine ⟨hl, rfl, ha, by rw [chgN_0]; have := chgN_le O list list.length; omega, fun j _ hj hf => ?_⟩
  obtain ⟨y, hy, e⟩ := List.any_eq_true.1 hf
  rw [beq_iff_eq] at e
  have := hk y hy
  rw [e, Int.toNat_natCast] at this
  exact this
theorem Gd.kp {ds ap : List (List Int)} {list frz O : List Int} {d : Int} (h : Gd ds ap list frz 0 d [] O) (hf : ∀ x ∈ frz, 0 ≤ x ∧ x < list.length) : Kp list frz O := fun x hx => by
  obtain ⟨h0, h1⟩ := hf x hx
  exact h.frz x.toNat (Nat.zero_le _) (by omega) (List.any_eq_true.2 ⟨x, hx, by rw [beq_iff_eq]; omega⟩)
section
variable (ds ap : List (List Int)) (list frz : List Int) (hS : NbS ds) (hA : NbS ap) (hn : list.length ≤ 1048576) (hf : frz.length ≤ 1048576)
include hS hA hn hf
theorem rep_cases (bu : Int) :
    (∃ e : Int, e ≠ 0 ∧ e ≠ 3 ∧ ∀ k, RO Try.prog 30 [.agg [.dsl 1 (nbL ds), .dsl 1 (nbL ap)], .dsl 1 (list.map inL), .dsl 1 (frz.map inL), .v (.int .i64 bu)] k (.tup [.v (.slice none 0 0), .v (.int .i64 0), .v (.int .i64 e)]) [] k) ∨
    (prB ds ap = true ∧ stB ds list = true ∧ frB list frz = true ∧
      (((∀ O, Asg ds ap O → O.length = list.length → ¬ Kp list frz O) ∧ ∀ k, RO Try.prog 30 [.agg [.dsl 1 (nbL ds), .dsl 1 (nbL ap)], .dsl 1 (list.map inL), .dsl 1 (frz.map inL), .v (.int .i64 bu)] k (.tup [.v (.slice none 0 0), .v (.int .i64 0), .v (.int .i64 3)]) [] k) ∨
      (∃ cs : List Int, cs.length = list.length ∧ Asg ds ap cs ∧ Kp list frz cs ∧ (∀ O, Asg ds ap O → O.length = list.length → Kp list frz O → chgN cs list list.length ≤ chgN O list list.length) ∧
        ∀ k, RO Try.prog 30 [.agg [.dsl 1 (nbL ds), .dsl 1 (nbL ap)], .dsl 1 (list.map inL), .dsl 1 (frz.map inL), .v (.int .i64 bu)] k (.tup [.sl k 0 cs.length, .v (.int .i64 (chgN cs list list.length)), .v (.int .i64 0)]) [(k, ⟨2, 1, true, cs.map inL⟩)] (k + 1)))) := by
  cases h : prB ds ap with
  | false => exact .inl ⟨1, by decide, by decide, fun k => Rep_bad_ro ds ap list frz hS hA hn hf bu h k⟩
  | true =>
    cases h2 : inB bu 1 20000 with
    | false => exact .inl ⟨2, by decide, by decide, fun k => Rep_rng_ro ds ap list frz hS hA hn hf bu h h2 k⟩
    | true =>
      cases h3 : stB ds list with
      | false => exact .inl ⟨6, by decide, by decide, fun k => Rep_st_ro ds ap list frz hS hA hn hf bu h h2 h3 k⟩
      | true =>
        cases h4 : frB list frz with
        | false => exact .inl ⟨6, by decide, by decide, fun k => Rep_frz_ro ds ap list frz hS hA hn hf bu h h2 h3 h4 k⟩
        | true =>
          have hbu : 1 ≤ bu ∧ bu ≤ 20000 := by simpa [inB] using h2
          have hP := PrF.of h
          obtain ⟨hl, hv⟩ := stB_in h3
          have hz : list.length ≠ 0 := by have := hP.n1; omega
          have hfr : ∀ x ∈ frz, 0 ≤ x ∧ x < list.length := fun x hx => by
            simp only [frB, Bool.and_eq_true, Bool.not_eq_true', List.any_eq_false] at h4
            have := h4.2 x hx
            simp [inB] at this
            omega
          have h0 : ∀ e x, Gd ds ap list frz 0 e [] x → ((0 : Nat) : Int) ≤ chgN x list list.length := fun e x _ => by omega
          by_cases c : (topF ds ap list frz (list.length + 1) 0 (bu, [])).1 = true
          · obtain ⟨g1, g2⟩ := topF_ok (ds := ds) (ap := ap) (frz := frz) hz (list.length + 1) 0 (bu, []) (by show 0 ≤ bu; omega) h0 c
            have hR := Rep_okR ds ap list frz hS hA hn hf bu h h2 h3 h4 c
            refine .inr ⟨rfl, rfl, rfl, .inr ⟨_, g1.len, g1.asg, g1.kp hfr, fun O a1 a2 a3 => g2 _ O (a3.gd a2 a1), fun k => ?_⟩⟩
            have := hR k
            rw [g1.len]; exact this
          · have c : (topF ds ap list frz (list.length + 1) 0 (bu, [])).1 = false := by simpa using c
            by_cases c2 : (topF ds ap list frz (list.length + 1) 0 (bu, [])).2.1 < 0
            · exact .inl ⟨5, by decide, by decide, fun k => Rep_full ds ap list frz hS hA hn hf bu h h2 h3 h4 ⟨c, c2⟩ k⟩
            · have g := topF_no (ds := ds) (ap := ap) (list := list) (frz := frz) (list.length + 1) 0 (bu, []) (by show 0 ≤ bu; omega) (by omega) h0 c c2
              exact .inr ⟨rfl, rfl, rfl, .inl ⟨fun O a1 a2 a3 => g _ O (a3.gd a2 a1), fun k => Rep_none ds ap list frz hS hA hn hf bu h h2 h3 h4 ⟨c, c2⟩ k⟩⟩
end
theorem first_cases (ds ap : List (List Int)) (hS : NbS ds) (hA : NbS ap) (h : prB ds ap = true) :
    (∃ e : Int, e ≠ 0 ∧ ∀ k, RO Try.prog 34 [.agg [.dsl 1 (nbL ds), .dsl 1 (nbL ap)], .v (.int .i64 20000)] k (.tup [.v (.slice none 0 0), .v (.int .i64 e)]) [] k) ∨
    (∃ O : List Int, O.length = ds.length ∧ Asg ds ap O ∧ ∀ k, RO Try.prog 34 [.agg [.dsl 1 (nbL ds), .dsl 1 (nbL ap)], .v (.int .i64 20000)] k (.tup [.sl k 0 O.length, .v (.int .i64 0)]) [(k, ⟨2, 1, true, O.map inL⟩)] (k + 1)) := by
  have hk := vq_k ds ap
  by_cases c : (vq ds ap).1 < 0
  · exact .inl ⟨5, by decide, fun k => First_full ds ap hS hA h c k⟩
  · by_cases c2 : (vq ds ap).2.1 = 0
    · exact .inl ⟨3, by decide, fun k => First_none ds ap hS hA h ⟨c, c2⟩ k⟩
    · have h1 := hk.one
      obtain ⟨_, g1, g2, g3⟩ := hk.ok (by omega)
      refine .inr ⟨(vq ds ap).2.2.2, g2, g3, fun k => ?_⟩
      have := First_okR ds ap hS hA h ⟨c, c2⟩ k
      rw [g2, ← g1]; exact this
end Go.Proofs.Yteknfaldpajlpaa.Nb
