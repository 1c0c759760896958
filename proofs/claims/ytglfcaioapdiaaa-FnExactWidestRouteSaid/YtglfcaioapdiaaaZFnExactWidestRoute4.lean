/-
  What the law FnExactWidestRoute rests on, part 4.
-/
import Derived.Test.YtglfcaioapdiaaaZFnExactWidestRoute3
namespace Go.Proofs.Ytglfcaioapdiaaa.Bk
open Go Go.RowKit Go.Proofs.Ytglfcaioapdiaaa.Aw
set_option linter.unusedSimpArgs false
set_option linter.unusedVariables false
attribute [local irreducible] AW SQ Step RO RC DE Thn InB
def nextW (W : List Wy) (x y cost : Int) : Wy := ⟨(W.getD x.toNat wyz).p ++ [y], (W.getD x.toNat wyz).c + cost, true⟩
def relaxW (W : List Wy) (x y cost : Int) : List Wy :=
  if (W.getD x.toNat wyz).f = true ∧ ((W.getD x.toNat wyz).p.any fun z => z == y) = false ∧ better (nextW W x y cost) (W.getD y.toNat wyz) = true then W.set y.toNat (nextW W x y cost) else W
def twoW (W : List Wy) (a b cost : Int) : Nat → List Wy
  | 0 => W
  | 1 => relaxW W a b cost
  | _ => relaxW (relaxW W a b cost) b a cost
def costW (counts : Bool) (l : Ln) : Int := if counts then l.o else 0
def linkW (counts : Bool) (W : List Wy) (l : Ln) (m : Bool) : List Wy := if m then twoW W l.a l.b (costW counts l) 2 else W
def turnW (ls : List Ln) (may : List Bool) (counts : Bool) (W : List Wy) : Nat → List Wy
  | 0 => W
  | i + 1 => linkW counts (turnW ls may counts W i) (ls.getD i lnz) (may.getD i false)
def ways0 (n frm : Int) : List Wy := (List.replicate n.toNat wyz).set frm.toNat ⟨[frm], 0, true⟩
def waysN (n : Int) (ls : List Ln) (may : List Bool) (counts : Bool) (frm : Int) : Nat → List Wy
  | 0 => ways0 n frm
  | t + 1 => turnW ls may counts (waysN n ls may counts frm t) ls.length
def routeW (n : Int) (ls : List Ln) (may : List Bool) (counts : Bool) (frm to : Int) : Wy := (waysN n ls may counts frm n.toNat).getD to.toNat wyz
structure GoodY (n : Int) (w : Wy) : Prop where
  nd : w.p.Nodup
  rng : ∀ x ∈ w.p, 0 ≤ x ∧ x < n
  c0 : 0 ≤ w.c
  c1 : w.c ≤ 1000000 * (w.p.length : Int)
structure GoodW (n : Int) (W : List Wy) : Prop where
  len : W.length = n.toNat
  all : ∀ i, i < n.toNat → GoodY n (W.getD i wyz)
theorem GoodY.z (n : Int) : GoodY n wyz := ⟨List.nodup_nil, by simp [wyz], by simp [wyz], by simp [wyz]⟩
theorem GoodY.le {n : Int} {w : Wy} (hn : 0 ≤ n) (h : GoodY n w) : w.p.length ≤ n.toNat := pigeon _ _ h.nd fun x hx => by have := h.rng x hx; omega
theorem GoodW.at {n : Int} {W : List Wy} (h : GoodW n W) (i : Nat) : GoodY n (W.getD i wyz) := by
  by_cases hi : i < n.toNat
  · exact h.all i hi
  · have : W.getD i wyz = wyz := by simp [List.getD, List.getElem?_eq_none (show W.length ≤ i by rw [h.len]; omega)]
    rw [this]; exact GoodY.z n
theorem GoodW.set {n : Int} {W : List Wy} (h : GoodW n W) (j : Nat) {w : Wy} (hw : GoodY n w) : GoodW n (W.set j w) := by
  refine ⟨by simp [h.len], fun i hi => ?_⟩
  have := h.at i
  simp only [List.getD, List.getElem?_set] at this ⊢
  split
  · split
    · exact hw
    · exact GoodY.z n
  · exact this
theorem nextW_good {n : Int} {W : List Wy} {x y cost : Int} (h : GoodW n W) (hy : 0 ≤ y ∧ y < n) (hc : 0 ≤ cost ∧ cost ≤ 1000000) (hp : ((W.getD x.toNat wyz).p.any fun z => z == y) = false) : GoodY n (nextW W x y cost) := by
  have g := h.at x.toNat
  simp only [List.any_eq_false, beq_iff_eq] at hp
  refine ⟨List.nodup_append.2 ⟨g.nd, by simp, fun a ha b hb => ?_⟩, fun z hz => ?_, ?_, ?_⟩
  · simp at hb; subst hb; exact fun e => hp a ha e
  · rcases List.mem_append.1 hz with hz | hz
    · exact g.rng z hz
    · simp at hz; subst hz; exact hy
  · have := g.c0; simp only [nextW]; omega
  · have := g.c1; simp only [nextW, List.length_append, List.length_singleton]; omega
theorem relaxW_good {n : Int} {W : List Wy} {x y cost : Int} (h : GoodW n W) (hy : 0 ≤ y ∧ y < n) (hc : 0 ≤ cost ∧ cost ≤ 1000000) : GoodW n (relaxW W x y cost) := by
  unfold relaxW
  split
  · rename_i hh; exact h.set _ (nextW_good h hy hc hh.2.1)
  · exact h
theorem costW_in {counts : Bool} {l : Ln} (h : 0 ≤ l.o ∧ l.o ≤ 1000000) : 0 ≤ costW counts l ∧ costW counts l ≤ 1000000 := by
  unfold costW; split <;> omega
theorem twoW_good {n : Int} {W : List Wy} {a b cost : Int} (h : GoodW n W) (ha : 0 ≤ a ∧ a < n) (hb : 0 ≤ b ∧ b < n) (hc : 0 ≤ cost ∧ cost ≤ 1000000) : ∀ k, GoodW n (twoW W a b cost k)
  | 0 => h
  | 1 => relaxW_good h hb hc
  | _ + 2 => relaxW_good (relaxW_good h hb hc) ha hc
def LnsOk (n : Int) (ls : List Ln) : Prop := ∀ l ∈ ls, (0 ≤ l.a ∧ l.a < n) ∧ (0 ≤ l.b ∧ l.b < n) ∧ (0 ≤ l.o ∧ l.o ≤ 1000000)
theorem turnW_good {n : Int} {ls : List Ln} {may : List Bool} {counts : Bool} {W : List Wy} (hL : LnsOk n ls) (h : GoodW n W) : ∀ i, i ≤ ls.length → GoodW n (turnW ls may counts W i)
  | 0, _ => h
  | i + 1, hi => by
    have ih := turnW_good (may := may) (counts := counts) hL h i (by omega)
    obtain ⟨h1, h2, h3⟩ := hL ls[i] (List.getElem_mem (by omega))
    have hD : ls.getD i lnz = ls[i] := by simp [List.getD, show i < ls.length by omega]
    simp only [turnW, linkW, hD]
    split
    · exact twoW_good ih h1 h2 (costW_in h3) 2
    · exact ih
theorem ways0_good {n frm : Int} (hf : 0 ≤ frm ∧ frm < n) : GoodW n (ways0 n frm) := by
  have h0 : GoodW n (List.replicate n.toNat wyz) := ⟨by simp, fun i hi => by simp [List.getD, List.getElem?_replicate, hi]; exact GoodY.z n⟩
  exact h0.set _ ⟨by simp, by simp; exact hf, by simp, by simp⟩
theorem waysN_good {n : Int} {ls : List Ln} {may : List Bool} {counts : Bool} {frm : Int} (hL : LnsOk n ls) (hf : 0 ≤ frm ∧ frm < n) : ∀ t, GoodW n (waysN n ls may counts frm t)
  | 0 => ways0_good hf
  | t + 1 => turnW_good hL (waysN_good hL hf t) _ (Nat.le_refl _)
set_option maxHeartbeats 4000000 in
theorem l25Route_rc (n : Int) (ls : List Ln) (may : List Bool) (counts : Bool) (frm to : Int) (hN : 1 ≤ n ∧ n ≤ 12) (hn : ls.length ≤ 1048576) (hm : may.length = ls.length) (hL : LnsOk n ls) (hf : 0 ≤ frm ∧ frm < n) (ht : 0 ≤ to ∧ to < n) (k : Nat) :
    RC Try.prog 46 [.dptr (bkL n ls), .v (.int .i64 frm), .v (.int .i64 to), .dsl 1 (may.map boL), .v (.bool counts)] [] k (.tup [.dsl 1 ((routeW n ls may counts frm to).p.map inL), .v (.bool (routeW n ls may counts frm to).f)]) [] k := by
  refine RC.ofc [] 0 [.dptr (bkL n ls), .v (.int .i64 frm), .v (.int .i64 to), .dsl 1 (may.map boL), .v (.bool counts)] [] (.tup [.dsl 1 ((routeW n ls may counts frm to).p.map inL), .v (.bool (routeW n ls may counts frm to).f)]) [] Try.func46 Try.ntmps46 rfl (goFn_of Try.func46 rfl (by kernel_rfl)) rfl rfl rfl rfl rfl rfl rfl rfl (by simp_all) rfl ?_
  unfold bkL
  ((repeat' (first
    | (show SQ _ _ _ _ _ _ _ _; first | apply sq_nil | (apply q_move; exact rfl; exact rfl) | (apply q_assign; exact rfl; exact rfl) | (apply q_fieldAddr; exact rfl; exact rfl; exact (ty rfl); exact rfl; exact rfl; exact rfl; exact rfl) | (apply q_nilc; exact rfl; exact rfl; exact rfl) | (apply q_ixl; exact rfl; exact rfl; exact rfl; exact (ty rfl); exact rfl; exact rfl; exact rfl; exact (by first | omega | (simp; done) | (simp; omega)); exact (by first | omega | (simp; done) | (simp; omega))) | (apply q_ld1d; exact rfl; exact rfl; exact (ty rfl); exact rfl; exact rfl) | (apply q_build; exact rfl; exact (ty rfl); exact rfl; exact rfl; exact rfl))
    | (show SQ _ _ _ _ _ _ _ _; (first | (apply q_mks; exact rfl; exact rfl; exact rfl; exact (ty rfl); exact rfl; exact (by first | omega | (simp; done) | (simp; omega)); exact (by first | omega | (simp; done) | (simp; omega)); exact (by first | omega | (simp; done) | (simp; omega)); exact (by first | omega | (simp; done) | (simp; omega)); exact rfl; exact rfl) | (apply q_buildn; exact rfl; exact (ty rfl); exact rfl; exact rfl; exact rfl; exact rfl; exact rfl; exact rfl; exact rfl)); (try simp only [put, rowsOf, plR, List.all_cons, selE, ovr, setH, del, cellsA, splice, isV, List.nil_append, List.cons_append, List.map_cons, List.map_nil, List.length_cons, List.length_nil, List.set_cons_zero, List.set_cons_succ, List.take_succ_cons, List.take_zero, List.take_nil, List.drop_succ_cons, List.drop_zero, List.drop_nil, List.append_nil, List.all_cons, List.all_nil, Bool.and_true, Bool.true_and, Bool.and_false, Bool.false_and, Nat.reduceAdd, Nat.zero_add, Nat.add_zero, Nat.reduceEqDiff, if_true, if_false, reduceIte]))
    | (show AW _ _ _ _ _ _ _ _; first | refine aw_region ?_ | (refine aw_seqk ?_; intro K hK))
    | refine thn_n ?_
    | (refine hK _ _ _ ?_; clear hK K))); all_goals (repeat (clear hK K)))
  refine sq_wkB 0 (List.replicate n.toNat (wyL wyz)) rfl (WkR.rep3 (.nil 1) (.same _) (.same _)) ?_
  have hst : (List.replicate n.toNat (wyL wyz)).set frm.toNat [.dsl 1 [[.v (.int .i64 frm)]], .v (.int .i64 0), .v (.bool true)] = (ways0 n frm).map wyL := by
    rw [ways0, List.map_set, List.map_replicate]; rfl
  have hz : (List.replicate n.toNat (wyL wyz))[frm.toNat]? = some [.dsl 1 [], .v (.int .i64 0), .v (.bool false)] := by
    rw [List.getElem?_replicate, if_pos (by omega)]; rfl
  ((repeat' (first
    | (show SQ _ _ _ _ _ _ _ _; apply sq_frza (t := 29) 0; exact rfl; exact rfl; exact rfl; exact (by first | rfl | exact all_noOwn_map (fun _ => rfl) | assumption | exact hclo); exact (by first | omega | (simp; done) | (simp; omega)); exact (by first | exact dt_full (by first | omega | (simp; done) | (simp; omega)) | assumption | rfl); (try simp only [put, rowsOf, plR, List.all_cons, selE, ovr, setH, del, cellsA, splice, isV, List.nil_append, List.cons_append, List.map_cons, List.map_nil, List.length_cons, List.length_nil, List.set_cons_zero, List.set_cons_succ, List.take_succ_cons, List.take_zero, List.take_nil, List.drop_succ_cons, List.drop_zero, List.drop_nil, List.append_nil, List.all_cons, List.all_nil, Bool.and_true, Bool.true_and, Bool.and_false, Bool.false_and, Nat.reduceAdd, Nat.zero_add, Nat.add_zero, Nat.reduceEqDiff, if_true, if_false, reduceIte]))
    | (show SQ _ _ _ _ _ _ _ _; first | apply sq_nil | (apply q_assign; exact rfl; exact rfl))
    | (show SQ _ _ _ _ _ _ _ _; (first | (apply q_store; exact rfl; exact rfl; exact (ty rfl); exact rfl; exact (by first | rfl | assumption | ((try simp only [Nat.zero_add]); refine List.getElem?_set_self ?_; (try simp only [List.length_set]); assumption)); exact rfl; exact rfl; exact rfl)); (try simp only [put, rowsOf, plR, List.all_cons, selE, ovr, setH, del, cellsA, splice, isV, List.nil_append, List.cons_append, List.map_cons, List.map_nil, List.length_cons, List.length_nil, List.set_cons_zero, List.set_cons_succ, List.take_succ_cons, List.take_zero, List.take_nil, List.drop_succ_cons, List.drop_zero, List.drop_nil, List.append_nil, List.all_cons, List.all_nil, Bool.and_true, Bool.true_and, Bool.and_false, Bool.false_and, Nat.reduceAdd, Nat.zero_add, Nat.add_zero, Nat.reduceEqDiff, if_true, if_false, reduceIte]))
    | (show AW _ _ _ _ _ _ _ _; first | refine aw_region ?_ | (refine aw_seqk ?_; intro K hK) | refine aw_block ?_)
    | refine thn_n ?_
    | (refine hK _ _ _ ?_; clear hK K))); all_goals (repeat (clear hK K)))
  refine aw_loop (ρ := id) (ι := Nat) (fun t => ([(13, .v (.int .i64 t)), (12, .sl 0 0 n.toNat), (4, .v (.bool counts)), (3, .dsl 1 (may.map boL)), (2, .v (.int .i64 to)), (0, .dptr [.v (.int .i64 n), .dsl 4 (ls.map lnL)])], [(0, ⟨109, 3, false, (waysN n ls may counts frm t).map wyL⟩)], 1))
    (fun t => t ≤ n.toNat) (fun t => n.toNat - t) 0 (Nat.zero_le _) ⟨by (repeat (refine ⟨by first | exact lk_i rfl rfl | exact lk_d rfl rfl | exact lk_v rfl rfl | exact lk_s rfl rfl rfl rfl | exact lk_p rfl rfl, ?_⟩)); exact trivial, by (repeat (refine ⟨by first | exact lknc rfl rfl rfl (by exact hst) (by first | rfl | exact all_noOwn_map (fun _ => rfl) | assumption | exact hclo) rfl, ?_⟩)); exact trivial, by rfl, by exact pin_0⟩ ?_
  clear hst hz
  intro t hi
  have hG := waysN_good (may := may) (counts := counts) hL hf t
  by_cases c1 : t < n.toNat
  · have b1 : decide ((t : Int) < n) = true := by simp only [decide_eq_true_eq]; omega
    have hw1 : IntKind.i64.wrap ((t : Int) + 1) = ((t + 1 : Nat) : Int) := by rw [IntWalk.i64_in _ (by omega)]; omega
    have hN1 : waysN n ls may counts frm (t + 1) = turnW ls may counts (waysN n ls may counts frm t) ls.length := rfl
    generalize waysN n ls may counts frm t = W at hG hN1 ⊢
    ((repeat' (first
    | (show SQ _ _ _ _ _ _ _ _; first | apply sq_nil | (apply q_move; exact rfl; exact rfl) | (apply q_assign; exact rfl; exact rfl) | (apply q_fieldAddr; exact rfl; exact rfl; exact (ty rfl); exact rfl; exact rfl; exact rfl; exact rfl) | (apply q_nilc; exact rfl; exact rfl; exact rfl) | (apply q_lss; exact rfl; exact rfl; exact rfl) | (apply q_ld1d; exact rfl; exact rfl; exact (ty rfl); exact rfl; exact rfl))
    | (show AW _ _ _ _ _ _ _ _; first | refine aw_region ?_ | (refine aw_seqk ?_; intro K hK) | refine aw_block ?_ | (apply aw_cond_t; exact rfl; exact (by assumption)) | refine aw_skip ?_)
    | refine thn_n ?_
    | (refine hK _ _ _ ?_; clear hK K))); all_goals (repeat (clear hK K)))
    refine aw_loop (ρ := id) (ι := Nat) (fun i => ([(14, .v (.int .i64 i)), (13, .v (.int .i64 t)), (12, .sl 0 0 n.toNat), (4, .v (.bool counts)), (3, .dsl 1 (may.map boL)), (2, .v (.int .i64 to)), (0, .dptr [.v (.int .i64 n), .dsl 4 (ls.map lnL)])], [(0, ⟨109, 3, false, (turnW ls may counts W i).map wyL⟩)], 1))
      (fun i => i ≤ ls.length) (fun i => ls.length - i) 0 (Nat.zero_le _) ⟨by (repeat (refine ⟨by first | exact lk_i rfl rfl | exact lk_d rfl rfl | exact lk_v rfl rfl | exact lk_s rfl rfl rfl rfl | exact lk_p rfl rfl, ?_⟩)); exact trivial, by (repeat (refine ⟨by first | exact lknc rfl rfl rfl rfl (by first | rfl | exact all_noOwn_map (fun _ => rfl) | assumption | exact hclo) rfl, ?_⟩)); exact trivial, by rfl, by exact pin_0⟩ ?_
    intro i hi2
    have hGi := turnW_good (may := may) (counts := counts) hL hG i hi2
    by_cases c2 : i < ls.length
    · have b2 : decide ((i : Int) < ((ls.map lnL).length : Int)) = true := by simpa using c2
      have hw2 : IntKind.i64.wrap ((i : Int) + 1) = ((i + 1 : Nat) : Int) := by rw [IntWalk.i64_in _ (by omega)]; omega
      have c3 : i < may.length := by omega
      have hrow1 : (may.map boL)[((i : Int)).toNat]? = some (boL may[i]) := by simp [c3]
      rw [boL_eq] at hrow1
      have hrow2 : (ls.map lnL)[((i : Int)).toNat]? = some (lnL ls[i]) := by simp [c2]
      rw [lnL_eq] at hrow2
      have hT : turnW ls may counts W (i + 1) = linkW counts (turnW ls may counts W i) ls[i] may[i] := by simp [turnW, List.getD, c2, c3]
      obtain ⟨h1, h2, h3⟩ := hL ls[i] (List.getElem_mem c2)
      generalize turnW ls may counts W i = V at hGi hT ⊢
      generalize ls[i] = l at hrow2 hT h1 h2 h3
      cases hb : may[i] with
      | false =>
        rw [hb] at hrow1 hT
        have e1 : turnW ls may counts W (i + 1) = V := hT
        ((repeat' (first
    | (show SQ _ _ _ _ _ _ _ _; first | apply sq_nil | (apply q_move; exact rfl; exact rfl) | (apply q_assign; exact rfl; exact rfl) | (apply q_fieldAddr; exact rfl; exact rfl; exact (ty rfl); exact rfl; exact rfl; exact rfl; exact rfl) | (apply q_nilc; exact rfl; exact rfl; exact rfl) | (apply q_not; exact rfl; exact rfl) | (apply q_lend; exact rfl; exact rfl; exact (ty rfl); exact rfl) | (apply q_add; exact rfl; exact rfl; exact rfl) | (apply q_lss; exact rfl; exact rfl; exact rfl) | (apply q_ixd; exact rfl; exact rfl; exact rfl; exact (ty rfl); exact rfl; exact (by first | omega | (simp; done) | (simp; omega)); exact (by first | omega | (simp; done) | (simp; omega)); exact (by first | rfl | assumption)) | (apply q_ld1d; exact rfl; exact rfl; exact (ty rfl); exact rfl; exact rfl))
    | (show AW _ _ _ _ _ _ _ _; first | refine aw_region ?_ | (refine aw_seqk ?_; intro K hK) | refine aw_block ?_ | (apply aw_cond_t; exact rfl; exact rfl) | (apply aw_cond_t; exact rfl; exact (by assumption)) | refine aw_exit ?_ | refine aw_skip ?_)
    | refine thn_n ?_
    | (refine hK _ _ _ ?_; clear hK K)
    | refine thn_e ?_
    | refine inb_same ?_
    | (clear hK K; refine hK _ _ _ ?_; clear hK K))); all_goals (repeat (clear hK K)))
        all_goals (refine ⟨i + 1, id, c2, by omega, ?_⟩; (try dsimp only); rw [e1, ← hw2]; exact ⟨by (repeat (refine ⟨by first | exact lk_i rfl rfl | exact lk_d rfl rfl | exact lk_v rfl rfl | exact lk_s rfl rfl rfl rfl | exact lk_p rfl rfl, ?_⟩)); exact trivial, by (repeat (refine ⟨by first | exact lknc rfl rfl rfl rfl (by first | rfl | exact all_noOwn_map (fun _ => rfl) | assumption | exact hclo) rfl, ?_⟩)); exact trivial, by rfl, by exact pin_0⟩)
      | true =>
        rw [hb] at hrow1 hT
        have e1 : turnW ls may counts W (i + 1) = twoW V l.a l.b (costW counts l) 2 := hT
        have hc := costW_in (counts := counts) h3
        have hcost : costW counts l = if counts then l.o else 0 := rfl
        generalize costW counts l = cost at e1 hc hcost
        ((repeat' (first
    | (show SQ _ _ _ _ _ _ _ _; first | apply sq_nil | (apply q_move; exact rfl; exact rfl) | (apply q_assign; exact rfl; exact rfl) | (apply q_fieldAddr; exact rfl; exact rfl; exact (ty rfl); exact rfl; exact rfl; exact rfl; exact rfl) | (apply q_nilc; exact rfl; exact rfl; exact rfl) | (apply q_not; exact rfl; exact rfl) | (apply q_lend; exact rfl; exact rfl; exact (ty rfl); exact rfl) | (apply q_lss; exact rfl; exact rfl; exact rfl) | (apply q_ixd; exact rfl; exact rfl; exact rfl; exact (ty rfl); exact rfl; exact (by first | omega | (simp; done) | (simp; omega)); exact (by first | omega | (simp; done) | (simp; omega)); exact (by first | rfl | assumption)) | (apply q_ld1d; exact rfl; exact rfl; exact (ty rfl); exact rfl; exact rfl))
    | (show AW _ _ _ _ _ _ _ _; first | refine aw_region ?_ | (refine aw_seqk ?_; intro K hK) | refine aw_block ?_ | (apply aw_cond_f; exact rfl; exact rfl) | (apply aw_cond_t; exact rfl; exact (by assumption)) | refine aw_skip ?_ | (apply aw_ite; exact rfl; all_goals intro h))
    | refine thn_n ?_
    | (refine hK _ _ _ ?_; clear hK K))); all_goals (repeat (clear hK K)))
        all_goals (rw [h] at hcost; simp only [if_true, Bool.false_eq_true, if_false] at hcost; clear h)
        all_goals
          refine aw_loop (ρ := id) (ι := Nat) (fun q => ([(16, .v (.int .i64 q)), (15, .v (.int .i64 cost)), (14, .v (.int .i64 i)), (13, .v (.int .i64 t)), (12, .sl 0 0 n.toNat), (4, .v (.bool counts)), (3, .dsl 1 (may.map boL)), (2, .v (.int .i64 to)), (0, .dptr [.v (.int .i64 n), .dsl 4 (ls.map lnL)])], [(0, ⟨109, 3, false, (twoW V l.a l.b cost q).map wyL⟩)], 1))
            (fun q => q ≤ 2) (fun q => 2 - q) 0 (Nat.zero_le _) ⟨by (repeat (refine ⟨by first | exact lk_i rfl rfl | exact lk_i rfl (by (try dsimp only); first | rfl | omega | (rw [IntWalk.i64_in _ (by omega)]; first | rfl | omega | (push_cast; omega)) | (simp; done) | (simp; omega)) | exact lk_d rfl rfl | exact lk_v rfl rfl | exact lk_s rfl rfl rfl rfl | exact lk_p rfl rfl, ?_⟩)); exact trivial, by (repeat (refine ⟨by first | exact lknc rfl rfl rfl rfl (by first | rfl | exact all_noOwn_map (fun _ => rfl) | assumption | exact hclo) rfl, ?_⟩)); exact trivial, by rfl, by exact pin_0⟩ ?_
          clear hcost
          intro q hq
          match q, hq with
          | 0, _ =>
            have b5 : decide (((0 : Nat) : Int) < 2) = true := by decide
            have b6 : (((0 : Nat) : Int) == 1) = false := by decide
            have hw3 : IntKind.i64.wrap (((0 : Nat) : Int) + 1) = ((1 : Nat) : Int) := by decide
            have hGq := twoW_good hGi h1 h2 hc 0
            have hS : twoW V l.a l.b cost 1 = relaxW (twoW V l.a l.b cost 0) l.a l.b cost := rfl
            generalize twoW V l.a l.b cost 0 = Z at hGq hS ⊢
            have g1 := hGq.at l.a.toNat
            have g2 := hGq.at l.b.toNat
            have hlen := hGq.len
            have k1 : l.a.toNat < Z.length := by omega
            have k2 : l.b.toNat < Z.length := by omega
            have hr1 : (Z.map wyL)[0 + l.a.toNat]? = some (wyL (Z.getD l.a.toNat wyz)) := by simp [List.getD, k1]
            have hr2 : (Z.map wyL)[0 + l.b.toNat]? = some (wyL (Z.getD l.b.toNat wyz)) := by simp [List.getD, k2]
            rw [wyL_eq] at hr1 hr2
            cases hfx : (Z.getD l.a.toNat wyz).f with
            | false =>
              rw [hfx] at hr1
              have e2 : relaxW Z l.a l.b cost = Z := by unfold relaxW; rw [hfx]; simp
              ((repeat' (first
    | (show SQ _ _ _ _ _ _ _ _; first | apply sq_nil | (apply q_move; exact rfl; exact rfl) | (apply q_assign; exact rfl; exact rfl) | (apply q_pick_t; exact rfl; exact rfl; exact rfl; exact (by first | assumption | exact rfl)) | (apply q_fieldAddr; exact rfl; exact rfl; exact (ty rfl); exact rfl; exact rfl; exact rfl; exact rfl) | (apply q_nilc; exact rfl; exact rfl; exact rfl) | (apply q_not; exact rfl; exact rfl) | (apply q_add; exact rfl; exact rfl; exact rfl) | (apply q_eql; exact rfl; exact rfl; exact rfl) | (apply q_lss; exact rfl; exact rfl; exact rfl) | (apply q_ixd; exact rfl; exact rfl; exact rfl; exact (ty rfl); exact rfl; exact (by first | omega | (simp; done) | (simp; omega)); exact (by first | omega | (simp; done) | (simp; omega)); exact (by first | rfl | assumption)) | (apply q_ixl; exact rfl; exact rfl; exact rfl; exact (ty rfl); exact rfl; exact rfl; exact rfl; exact (by first | omega | (simp; done) | (simp; omega)); exact (by first | omega | (simp; done) | (simp; omega))) | (apply q_ld1d; exact rfl; exact rfl; exact (ty rfl); exact rfl; exact rfl) | (apply q_ld1p; exact rfl; exact rfl; exact (ty rfl); exact rfl; exact rfl; exact (by first | rfl | assumption | ((try simp only [Nat.zero_add]); refine List.getElem?_set_self ?_; (try simp only [List.length_set]); assumption)); exact rfl) | (apply q_s; exact rfl; exact rfl; exact rfl; exact (by assumption); exact rfl))
    | (show AW _ _ _ _ _ _ _ _; first | refine aw_region ?_ | (refine aw_seqk ?_; intro K hK) | refine aw_block ?_ | (apply aw_cond_t; exact rfl; exact rfl) | (apply aw_cond_f; exact rfl; exact rfl) | refine aw_exit ?_ | refine aw_skip ?_)
    | refine thn_n ?_
    | (refine hK _ _ _ ?_; clear hK K)
    | refine thn_e ?_
    | refine inb_same ?_
    | (clear hK K; refine hK _ _ _ ?_; clear hK K))); all_goals (repeat (clear hK K)))
              all_goals (refine ⟨1, id, by omega, by omega, ?_⟩; (try dsimp only); rw [hS, e2, ← hw3]; exact ⟨by (repeat (refine ⟨by first | exact lk_i rfl rfl | exact lk_d rfl rfl | exact lk_v rfl rfl | exact lk_s rfl rfl rfl rfl | exact lk_p rfl rfl, ?_⟩)); exact trivial, by (repeat (refine ⟨by first | exact lknc rfl rfl rfl rfl (by first | rfl | exact all_noOwn_map (fun _ => rfl) | assumption | exact hclo) rfl, ?_⟩)); exact trivial, by rfl, by exact pin_0⟩)
            | true =>
              rw [hfx] at hr1
              have hrel : relaxW Z l.a l.b cost = if (true = true ∧ ((Z.getD l.a.toNat wyz).p.any fun z => z == l.b) = false ∧ better (nextW Z l.a l.b cost) (Z.getD l.b.toNat wyz) = true) then Z.set l.b.toNat (nextW Z l.a l.b cost) else Z := by unfold relaxW; rw [hfx]
              have g3 := g1.le (by omega)
              have g4 := g2.le (by omega)
              have u1 := g1.c0
              have u2 := g1.c1
              have hcw : IntKind.i64.wrap ((Z.getD l.a.toNat wyz).c + cost) = (Z.getD l.a.toNat wyz).c + cost := IntWalk.i64_in _ (by omega)
              have hC := l00Has_ro (Z.getD l.a.toNat wyz).p ((Z.getD l.a.toNat wyz).p.map inL) l.b rfl (by omega)
              have hO := l00Own_ro (Z.getD l.a.toNat wyz).p (by omega)
              have hB := l25Better_ro (nextW Z l.a l.b cost) (Z.getD l.b.toNat wyz) (by simp only [nextW, List.length_append, List.length_singleton]; omega) (by omega)
              unfold nextW at hB hrel
              rw [wyL_eq, wyL_eq] at hB
              simp only [List.map_append] at hB
              rw [← hcw] at hB hrel
              have hset : (Z.set l.b.toNat ⟨(Z.getD l.a.toNat wyz).p ++ [l.b], IntKind.i64.wrap ((Z.getD l.a.toNat wyz).c + cost), true⟩).map wyL = (Z.map wyL).set l.b.toNat [.dsl 1 ((Z.getD l.a.toNat wyz).p.map inL ++ [[.v (.int .i64 l.b)]]), .v (.int .i64 (IntKind.i64.wrap ((Z.getD l.a.toNat wyz).c + cost))), .v (.bool true)] := by
                rw [List.map_set, wyL_eq, List.map_append]; rfl
              clear hcw
              generalize (Z.getD l.a.toNat wyz).p = p at *
              generalize (Z.getD l.a.toNat wyz).c = pc at *
              generalize Z.getD l.b.toNat wyz = wy at *
              have hml : (p.map inL).length = p.length := List.length_map _
              have hcl : ((p.map inL ++ [[AV.v (.int .i64 l.b)]]).all noOwnL) = true := by simp [List.all_append, List.all_map, inL, noOwnL, noOwn]
              ((repeat' (first
    | (show SQ _ _ _ _ _ _ _ _; apply sq_frza (t := 138) 0; exact rfl; exact rfl; exact rfl; exact (by first | rfl | exact all_noOwn_map (fun _ => rfl) | assumption | exact hclo); exact (by first | omega | (simp; done) | (simp; omega)); exact (by first | exact dt_full (by first | omega | (simp; done) | (simp; omega)) | assumption | rfl); (try simp only [put, rowsOf, plR, List.all_cons, selE, ovr, setH, del, cellsA, splice, isV, List.nil_append, List.cons_append, List.map_cons, List.map_nil, List.length_cons, List.length_nil, List.set_cons_zero, List.set_cons_succ, List.take_succ_cons, List.take_zero, List.take_nil, List.drop_succ_cons, List.drop_zero, List.drop_nil, List.append_nil, List.all_cons, List.all_nil, Bool.and_true, Bool.true_and, Bool.and_false, Bool.false_and, Nat.reduceAdd, Nat.zero_add, Nat.add_zero, Nat.reduceEqDiff, if_true, if_false, reduceIte]))
    | (show SQ _ _ _ _ _ _ _ _; first | apply sq_nil | (apply q_move; exact rfl; exact rfl) | (apply q_assign; exact rfl; exact rfl) | (apply q_pick_f; exact rfl; exact rfl; exact rfl; exact (by first | assumption | exact rfl)) | (apply q_fieldAddr; exact rfl; exact rfl; exact (ty rfl); exact rfl; exact rfl; exact rfl; exact rfl) | (apply q_nilc; exact rfl; exact rfl; exact rfl) | (apply q_not; exact rfl; exact rfl) | (apply q_add; exact rfl; exact rfl; exact rfl) | (apply q_eql; exact rfl; exact rfl; exact rfl) | (apply q_lss; exact rfl; exact rfl; exact rfl) | (apply q_ixd; exact rfl; exact rfl; exact rfl; exact (ty rfl); exact rfl; exact (by first | omega | (simp; done) | (simp; omega)); exact (by first | omega | (simp; done) | (simp; omega)); exact (by first | rfl | assumption)) | (apply q_ixl; exact rfl; exact rfl; exact rfl; exact (ty rfl); exact rfl; exact rfl; exact rfl; exact (by first | omega | (simp; done) | (simp; omega)); exact (by first | omega | (simp; done) | (simp; omega))) | (apply q_ld1d; exact rfl; exact rfl; exact (ty rfl); exact rfl; exact rfl) | (apply q_ld1p; exact rfl; exact rfl; exact (ty rfl); exact rfl; exact rfl; exact (by first | rfl | assumption | ((try simp only [Nat.zero_add]); refine List.getElem?_set_self ?_; (try simp only [List.length_set]); assumption)); exact rfl) | (apply q_g; exact rfl; exact rfl; exact rfl; exact (by assumption)))
    | (show SQ _ _ _ _ _ _ _ _; (first | (apply q_ldap; exact rfl; exact rfl; exact (ty rfl); exact rfl; exact rfl; exact (by first | rfl | assumption | ((try simp only [Nat.zero_add]); refine List.getElem?_set_self ?_; (try simp only [List.length_set]); assumption)); exact rfl) | (apply q_store; exact rfl; exact rfl; exact (ty rfl); exact rfl; exact (by first | rfl | assumption | ((try simp only [Nat.zero_add]); refine List.getElem?_set_self ?_; (try simp only [List.length_set]); assumption)); exact rfl; exact rfl; exact rfl) | (apply q_callU; exact rfl; exact rfl; exact rfl; exact FzL.of rfl; exact hC _) | (apply q_callU; exact rfl; exact rfl; exact rfl; rotate_left; exact hB _; rotate_right; focus ((repeat' (first | exact FzL.nil | exact (by assumption : FzC _) _ | refine FzL.cons ?_ ?_ | exact Fz.of rfl | exact Fz.nil | exact Fz.emp | (apply Fz.fnC; assumption) | (apply Fz.sl2; exact rfl; exact (by first | omega | (simp; done) | (simp; omega)); first | exact rfl | exact dt_full (by first | omega | (simp; done) | (simp; omega)) | assumption) | apply Fz.agg | (apply Fz.ptrL; exact rfl; first | exact rfl | assumption) | apply Fz.fnL)); done))); (try simp only [put, rowsOf, plR, List.all_cons, selE, ovr, setH, del, cellsA, splice, isV, List.nil_append, List.cons_append, List.map_cons, List.map_nil, List.length_cons, List.length_nil, List.set_cons_zero, List.set_cons_succ, List.take_succ_cons, List.take_zero, List.take_nil, List.drop_succ_cons, List.drop_zero, List.drop_nil, List.append_nil, List.all_cons, List.all_nil, Bool.and_true, Bool.true_and, Bool.and_false, Bool.false_and, Nat.reduceAdd, Nat.zero_add, Nat.add_zero, Nat.reduceEqDiff, if_true, if_false, reduceIte]))
    | (show DE _ _ _ _ _ _ _ _ _ _ _ _; first | (apply e_al3; exact rfl; exact (ty rfl); exact rfl; exact rfl; exact rfl) | (apply e_rdi; exact rfl; exact rfl; exact rfl; exact (ty rfl); exact rfl; exact rfl; exact rfl; exact (by first | omega | (simp; done) | (simp; omega)); exact (by first | omega | (simp; done) | (simp; omega)); exact rfl; exact rfl) | (apply e_move; exact rfl; exact rfl; exact rfl) | (apply e_fieldAddr; exact rfl; exact rfl; exact (ty rfl); exact rfl; exact rfl; exact rfl; exact rfl; exact rfl) | (apply e_add; exact rfl; exact rfl; exact rfl; exact rfl) | (apply e_build; exact rfl; exact (ty rfl); exact rfl; exact rfl; exact rfl; exact rfl))
    | (show DE _ _ _ _ _ _ _ _ _ _ _ _; (first | (apply dr_nil; (focus ((repeat (first | exact trivial | exact Or.inr rfl | exact Or.inl (by kernel_rfl) | apply And.intro)); done))) | (apply e_rd1; exact rfl; exact rfl; exact (ty rfl); exact rfl; exact rfl; exact (by first | rfl | assumption | ((try simp only [Nat.zero_add]); refine List.getElem?_set_self ?_; (try simp only [List.length_set]); assumption)); exact rfl; exact rfl; exact rfl) | (apply e_store; exact rfl; exact rfl; exact (ty rfl); exact rfl; exact (by first | rfl | assumption | ((try simp only [Nat.zero_add]); refine List.getElem?_set_self ?_; (try simp only [List.length_set]); assumption)); exact rfl; exact rfl; exact rfl; exact rfl) | (apply e_buildn; exact rfl; exact (ty rfl); exact rfl; exact rfl; exact rfl; exact rfl; exact rfl; exact rfl; exact rfl; exact rfl) | (apply e_apo_s; exact rfl; exact rfl; exact rfl; exact (ty rfl); exact rfl; exact rfl; exact (by first | omega | (simp; done) | (simp; omega)); exact (by first | exact List.take_of_length_le (by first | omega | (simp; done) | (simp; omega)) | rfl); exact (ty rfl); exact rfl; exact rfl; exact (by first | omega | (simp; done) | (simp; omega)); exact (by first | exact dt_full (by first | omega | (simp; done) | (simp; omega)) | assumption | rfl); exact rfl; exact (by first | omega | (simp; done) | (simp; omega)); exact (by first | omega | (simp; done) | (simp; omega)); exact (by first | assumption | exact rfl); exact rfl) | (apply e_callU; exact rfl; exact rfl; exact rfl; exact FzL.of rfl; exact hO _; exact rfl)); (try simp only [put, rowsOf, plR, List.all_cons, selE, ovr, setH, del, cellsA, splice, isV, List.nil_append, List.cons_append, List.map_cons, List.map_nil, List.length_cons, List.length_nil, List.set_cons_zero, List.set_cons_succ, List.take_succ_cons, List.take_zero, List.take_nil, List.drop_succ_cons, List.drop_zero, List.drop_nil, List.append_nil, List.all_cons, List.all_nil, Bool.and_true, Bool.true_and, Bool.and_false, Bool.false_and, Nat.reduceAdd, Nat.zero_add, Nat.add_zero, Nat.reduceEqDiff, if_true, if_false, reduceIte]))
    | (show AW _ _ _ _ _ _ _ _; first | refine aw_region ?_ | (refine aw_seqk ?_; intro K hK) | refine aw_block ?_ | (apply aw_cond_t; exact rfl; exact rfl) | (apply aw_cond_f; exact rfl; exact rfl) | refine aw_exit ?_ | refine aw_skip ?_ | refine aw_drawE (id := 22) [0, 0, 3, 7, 15, 31, 0, 64, 255, 0, 0, 1536, 3584, 7680, 0, 32256, 65535, 0, 262143] [0, 0, 0, 0, 0, 1, 0, 1, 2, 0, 0, 0, 0, 0, 0, 0, 0, 3, 2, 2, 0, 4, 0, 11, 0, 13, 0] mixed (by kernel_rfl) ?_ | (apply aw_ite; exact rfl; all_goals intro h))
    | refine thn_n ?_
    | (refine hK _ _ _ ?_; clear hK K)
    | refine thn_e ?_
    | refine inb_same ?_
    | refine inb_n ?_
    | (clear hK K; refine hK _ _ _ ?_; clear hK K))); all_goals (repeat (clear hK K)))
              · have e2 : relaxW Z l.a l.b cost = Z := by rw [hrel]; exact if_neg (fun hh => by simp [hh.2.1] at h)
                refine ⟨1, id, by omega, by omega, ?_⟩
                (try dsimp only); rw [hS, e2, ← hw3]; exact ⟨by (repeat (refine ⟨by first | exact lk_i rfl rfl | exact lk_d rfl rfl | exact lk_v rfl rfl | exact lk_s rfl rfl rfl rfl | exact lk_p rfl rfl, ?_⟩)); exact trivial, by (repeat (refine ⟨by first | exact lknc rfl rfl rfl rfl (by first | rfl | exact all_noOwn_map (fun _ => rfl) | assumption | exact hclo) rfl, ?_⟩)); exact trivial, by rfl, by exact pin_0⟩
              · have e2 := hrel.trans (if_pos ⟨rfl, ‹(p.any fun y => y == l.b) = false›, h⟩)
                refine ⟨1, id, by omega, by omega, ?_⟩
                (try dsimp only); rw [hS, e2, ← hw3]; exact ⟨by (repeat (refine ⟨by first | exact lk_i rfl rfl | exact lk_d rfl rfl | exact lk_v rfl rfl | exact lk_s rfl rfl rfl rfl | exact lk_p rfl rfl, ?_⟩)); exact trivial, by (repeat (refine ⟨by first | exact lknc rfl rfl rfl (by exact hset.symm) (by first | rfl | exact all_noOwn_map (fun _ => rfl) | assumption | exact hclo) rfl, ?_⟩)); exact trivial, by rfl, by exact pin_0⟩
              · have e2 : relaxW Z l.a l.b cost = Z := by rw [hrel]; exact if_neg (fun hh => by rw [hh.2.2] at h; cases h)
                refine ⟨1, id, by omega, by omega, ?_⟩
                (try dsimp only); rw [hS, e2, ← hw3]; exact ⟨by (repeat (refine ⟨by first | exact lk_i rfl rfl | exact lk_d rfl rfl | exact lk_v rfl rfl | exact lk_s rfl rfl rfl rfl | exact lk_p rfl rfl, ?_⟩)); exact trivial, by (repeat (refine ⟨by first | exact lknc rfl rfl rfl rfl (by first | rfl | exact all_noOwn_map (fun _ => rfl) | assumption | exact hclo) rfl, ?_⟩)); exact trivial, by rfl, by exact pin_0⟩
          | 1, _ =>
            have b5 : decide (((1 : Nat) : Int) < 2) = true := by decide
            have b6 : (((1 : Nat) : Int) == 1) = true := by decide
            have hw3 : IntKind.i64.wrap (((1 : Nat) : Int) + 1) = ((2 : Nat) : Int) := by decide
            have hGq := twoW_good hGi h1 h2 hc 1
            have hS : twoW V l.a l.b cost 2 = relaxW (twoW V l.a l.b cost 1) l.b l.a cost := rfl
            generalize twoW V l.a l.b cost 1 = Z at hGq hS ⊢
            have g1 := hGq.at l.b.toNat
            have g2 := hGq.at l.a.toNat
            have hlen := hGq.len
            have k1 : l.b.toNat < Z.length := by omega
            have k2 : l.a.toNat < Z.length := by omega
            have hr1 : (Z.map wyL)[0 + l.b.toNat]? = some (wyL (Z.getD l.b.toNat wyz)) := by simp [List.getD, k1]
            have hr2 : (Z.map wyL)[0 + l.a.toNat]? = some (wyL (Z.getD l.a.toNat wyz)) := by simp [List.getD, k2]
            rw [wyL_eq] at hr1 hr2
            cases hfx : (Z.getD l.b.toNat wyz).f with
            | false =>
              rw [hfx] at hr1
              have e2 : relaxW Z l.b l.a cost = Z := by unfold relaxW; rw [hfx]; simp
              ((repeat' (first
    | (show SQ _ _ _ _ _ _ _ _; first | apply sq_nil | (apply q_move; exact rfl; exact rfl) | (apply q_assign; exact rfl; exact rfl) | (apply q_pick_t; exact rfl; exact rfl; exact rfl; exact (by first | assumption | exact rfl)) | (apply q_fieldAddr; exact rfl; exact rfl; exact (ty rfl); exact rfl; exact rfl; exact rfl; exact rfl) | (apply q_nilc; exact rfl; exact rfl; exact rfl) | (apply q_not; exact rfl; exact rfl) | (apply q_add; exact rfl; exact rfl; exact rfl) | (apply q_eql; exact rfl; exact rfl; exact rfl) | (apply q_lss; exact rfl; exact rfl; exact rfl) | (apply q_ixd; exact rfl; exact rfl; exact rfl; exact (ty rfl); exact rfl; exact (by first | omega | (simp; done) | (simp; omega)); exact (by first | omega | (simp; done) | (simp; omega)); exact (by first | rfl | assumption)) | (apply q_ixl; exact rfl; exact rfl; exact rfl; exact (ty rfl); exact rfl; exact rfl; exact rfl; exact (by first | omega | (simp; done) | (simp; omega)); exact (by first | omega | (simp; done) | (simp; omega))) | (apply q_ld1d; exact rfl; exact rfl; exact (ty rfl); exact rfl; exact rfl) | (apply q_ld1p; exact rfl; exact rfl; exact (ty rfl); exact rfl; exact rfl; exact (by first | rfl | assumption | ((try simp only [Nat.zero_add]); refine List.getElem?_set_self ?_; (try simp only [List.length_set]); assumption)); exact rfl) | (apply q_s; exact rfl; exact rfl; exact rfl; exact (by assumption); exact rfl))
    | (show AW _ _ _ _ _ _ _ _; first | refine aw_region ?_ | (refine aw_seqk ?_; intro K hK) | refine aw_block ?_ | (apply aw_cond_t; exact rfl; exact rfl) | refine aw_exit ?_ | refine aw_skip ?_)
    | refine thn_n ?_
    | (refine hK _ _ _ ?_; clear hK K)
    | refine thn_e ?_
    | refine inb_same ?_
    | (clear hK K; refine hK _ _ _ ?_; clear hK K))); all_goals (repeat (clear hK K)))
              all_goals (refine ⟨2, id, by omega, by omega, ?_⟩; (try dsimp only); rw [hS, e2, ← hw3]; exact ⟨by (repeat (refine ⟨by first | exact lk_i rfl rfl | exact lk_d rfl rfl | exact lk_v rfl rfl | exact lk_s rfl rfl rfl rfl | exact lk_p rfl rfl, ?_⟩)); exact trivial, by (repeat (refine ⟨by first | exact lknc rfl rfl rfl rfl (by first | rfl | exact all_noOwn_map (fun _ => rfl) | assumption | exact hclo) rfl, ?_⟩)); exact trivial, by rfl, by exact pin_0⟩)
            | true =>
              rw [hfx] at hr1
              have hrel : relaxW Z l.b l.a cost = if (true = true ∧ ((Z.getD l.b.toNat wyz).p.any fun z => z == l.a) = false ∧ better (nextW Z l.b l.a cost) (Z.getD l.a.toNat wyz) = true) then Z.set l.a.toNat (nextW Z l.b l.a cost) else Z := by unfold relaxW; rw [hfx]
              have g3 := g1.le (by omega)
              have g4 := g2.le (by omega)
              have u1 := g1.c0
              have u2 := g1.c1
              have hcw : IntKind.i64.wrap ((Z.getD l.b.toNat wyz).c + cost) = (Z.getD l.b.toNat wyz).c + cost := IntWalk.i64_in _ (by omega)
              have hC := l00Has_ro (Z.getD l.b.toNat wyz).p ((Z.getD l.b.toNat wyz).p.map inL) l.a rfl (by omega)
              have hO := l00Own_ro (Z.getD l.b.toNat wyz).p (by omega)
              have hB := l25Better_ro (nextW Z l.b l.a cost) (Z.getD l.a.toNat wyz) (by simp only [nextW, List.length_append, List.length_singleton]; omega) (by omega)
              unfold nextW at hB hrel
              rw [wyL_eq, wyL_eq] at hB
              simp only [List.map_append] at hB
              rw [← hcw] at hB hrel
              have hset : (Z.set l.a.toNat ⟨(Z.getD l.b.toNat wyz).p ++ [l.a], IntKind.i64.wrap ((Z.getD l.b.toNat wyz).c + cost), true⟩).map wyL = (Z.map wyL).set l.a.toNat [.dsl 1 ((Z.getD l.b.toNat wyz).p.map inL ++ [[.v (.int .i64 l.a)]]), .v (.int .i64 (IntKind.i64.wrap ((Z.getD l.b.toNat wyz).c + cost))), .v (.bool true)] := by
                rw [List.map_set, wyL_eq, List.map_append]; rfl
              clear hcw
              generalize (Z.getD l.b.toNat wyz).p = p at *
              generalize (Z.getD l.b.toNat wyz).c = pc at *
              generalize Z.getD l.a.toNat wyz = wy at *
              have hml : (p.map inL).length = p.length := List.length_map _
              have hcl : ((p.map inL ++ [[AV.v (.int .i64 l.a)]]).all noOwnL) = true := by simp [List.all_append, List.all_map, inL, noOwnL, noOwn]
              ((repeat' (first
    | (show SQ _ _ _ _ _ _ _ _; apply sq_frza (t := 138) 0; exact rfl; exact rfl; exact rfl; exact (by first | rfl | exact all_noOwn_map (fun _ => rfl) | assumption | exact hclo); exact (by first | omega | (simp; done) | (simp; omega)); exact (by first | exact dt_full (by first | omega | (simp; done) | (simp; omega)) | assumption | rfl); (try simp only [put, rowsOf, plR, List.all_cons, selE, ovr, setH, del, cellsA, splice, isV, List.nil_append, List.cons_append, List.map_cons, List.map_nil, List.length_cons, List.length_nil, List.set_cons_zero, List.set_cons_succ, List.take_succ_cons, List.take_zero, List.take_nil, List.drop_succ_cons, List.drop_zero, List.drop_nil, List.append_nil, List.all_cons, List.all_nil, Bool.and_true, Bool.true_and, Bool.and_false, Bool.false_and, Nat.reduceAdd, Nat.zero_add, Nat.add_zero, Nat.reduceEqDiff, if_true, if_false, reduceIte]))
    | (show SQ _ _ _ _ _ _ _ _; first | apply sq_nil | (apply q_move; exact rfl; exact rfl) | (apply q_assign; exact rfl; exact rfl) | (apply q_pick_f; exact rfl; exact rfl; exact rfl; exact (by first | assumption | exact rfl)) | (apply q_fieldAddr; exact rfl; exact rfl; exact (ty rfl); exact rfl; exact rfl; exact rfl; exact rfl) | (apply q_nilc; exact rfl; exact rfl; exact rfl) | (apply q_not; exact rfl; exact rfl) | (apply q_add; exact rfl; exact rfl; exact rfl) | (apply q_eql; exact rfl; exact rfl; exact rfl) | (apply q_lss; exact rfl; exact rfl; exact rfl) | (apply q_ixd; exact rfl; exact rfl; exact rfl; exact (ty rfl); exact rfl; exact (by first | omega | (simp; done) | (simp; omega)); exact (by first | omega | (simp; done) | (simp; omega)); exact (by first | rfl | assumption)) | (apply q_ixl; exact rfl; exact rfl; exact rfl; exact (ty rfl); exact rfl; exact rfl; exact rfl; exact (by first | omega | (simp; done) | (simp; omega)); exact (by first | omega | (simp; done) | (simp; omega))) | (apply q_ld1d; exact rfl; exact rfl; exact (ty rfl); exact rfl; exact rfl) | (apply q_ld1p; exact rfl; exact rfl; exact (ty rfl); exact rfl; exact rfl; exact (by first | rfl | assumption | ((try simp only [Nat.zero_add]); refine List.getElem?_set_self ?_; (try simp only [List.length_set]); assumption)); exact rfl) | (apply q_g; exact rfl; exact rfl; exact rfl; exact rfl))
    | (show SQ _ _ _ _ _ _ _ _; (first | (apply q_ldap; exact rfl; exact rfl; exact (ty rfl); exact rfl; exact rfl; exact (by first | rfl | assumption | ((try simp only [Nat.zero_add]); refine List.getElem?_set_self ?_; (try simp only [List.length_set]); assumption)); exact rfl) | (apply q_store; exact rfl; exact rfl; exact (ty rfl); exact rfl; exact (by first | rfl | assumption | ((try simp only [Nat.zero_add]); refine List.getElem?_set_self ?_; (try simp only [List.length_set]); assumption)); exact rfl; exact rfl; exact rfl) | (apply q_callU; exact rfl; exact rfl; exact rfl; exact FzL.of rfl; exact hC _) | (apply q_callU; exact rfl; exact rfl; exact rfl; rotate_left; exact hB _; rotate_right; focus ((repeat' (first | exact FzL.nil | exact (by assumption : FzC _) _ | refine FzL.cons ?_ ?_ | exact Fz.of rfl | exact Fz.nil | exact Fz.emp | (apply Fz.fnC; assumption) | (apply Fz.sl2; exact rfl; exact (by first | omega | (simp; done) | (simp; omega)); first | exact rfl | exact dt_full (by first | omega | (simp; done) | (simp; omega)) | assumption) | apply Fz.agg | (apply Fz.ptrL; exact rfl; first | exact rfl | assumption) | apply Fz.fnL)); done))); (try simp only [put, rowsOf, plR, List.all_cons, selE, ovr, setH, del, cellsA, splice, isV, List.nil_append, List.cons_append, List.map_cons, List.map_nil, List.length_cons, List.length_nil, List.set_cons_zero, List.set_cons_succ, List.take_succ_cons, List.take_zero, List.take_nil, List.drop_succ_cons, List.drop_zero, List.drop_nil, List.append_nil, List.all_cons, List.all_nil, Bool.and_true, Bool.true_and, Bool.and_false, Bool.false_and, Nat.reduceAdd, Nat.zero_add, Nat.add_zero, Nat.reduceEqDiff, if_true, if_false, reduceIte]))
    | (show DE _ _ _ _ _ _ _ _ _ _ _ _; first | (apply e_al3; exact rfl; exact (ty rfl); exact rfl; exact rfl; exact rfl) | (apply e_rdi; exact rfl; exact rfl; exact rfl; exact (ty rfl); exact rfl; exact rfl; exact rfl; exact (by first | omega | (simp; done) | (simp; omega)); exact (by first | omega | (simp; done) | (simp; omega)); exact rfl; exact rfl) | (apply e_move; exact rfl; exact rfl; exact rfl) | (apply e_fieldAddr; exact rfl; exact rfl; exact (ty rfl); exact rfl; exact rfl; exact rfl; exact rfl; exact rfl) | (apply e_add; exact rfl; exact rfl; exact rfl; exact rfl) | (apply e_build; exact rfl; exact (ty rfl); exact rfl; exact rfl; exact rfl; exact rfl))
    | (show DE _ _ _ _ _ _ _ _ _ _ _ _; (first | (apply dr_nil; (focus ((repeat (first | exact trivial | exact Or.inr rfl | exact Or.inl (by kernel_rfl) | apply And.intro)); done))) | (apply e_rd1; exact rfl; exact rfl; exact (ty rfl); exact rfl; exact rfl; exact (by first | rfl | assumption | ((try simp only [Nat.zero_add]); refine List.getElem?_set_self ?_; (try simp only [List.length_set]); assumption)); exact rfl; exact rfl; exact rfl) | (apply e_store; exact rfl; exact rfl; exact (ty rfl); exact rfl; exact (by first | rfl | assumption | ((try simp only [Nat.zero_add]); refine List.getElem?_set_self ?_; (try simp only [List.length_set]); assumption)); exact rfl; exact rfl; exact rfl; exact rfl) | (apply e_buildn; exact rfl; exact (ty rfl); exact rfl; exact rfl; exact rfl; exact rfl; exact rfl; exact rfl; exact rfl; exact rfl) | (apply e_apo_s; exact rfl; exact rfl; exact rfl; exact (ty rfl); exact rfl; exact rfl; exact (by first | omega | (simp; done) | (simp; omega)); exact (by first | exact List.take_of_length_le (by first | omega | (simp; done) | (simp; omega)) | rfl); exact (ty rfl); exact rfl; exact rfl; exact (by first | omega | (simp; done) | (simp; omega)); exact (by first | exact dt_full (by first | omega | (simp; done) | (simp; omega)) | assumption | rfl); exact rfl; exact (by first | omega | (simp; done) | (simp; omega)); exact (by first | omega | (simp; done) | (simp; omega)); exact (by first | assumption | exact rfl); exact rfl) | (apply e_callU; exact rfl; exact rfl; exact rfl; exact FzL.of rfl; exact hO _; exact rfl)); (try simp only [put, rowsOf, plR, List.all_cons, selE, ovr, setH, del, cellsA, splice, isV, List.nil_append, List.cons_append, List.map_cons, List.map_nil, List.length_cons, List.length_nil, List.set_cons_zero, List.set_cons_succ, List.take_succ_cons, List.take_zero, List.take_nil, List.drop_succ_cons, List.drop_zero, List.drop_nil, List.append_nil, List.all_cons, List.all_nil, Bool.and_true, Bool.true_and, Bool.and_false, Bool.false_and, Nat.reduceAdd, Nat.zero_add, Nat.add_zero, Nat.reduceEqDiff, if_true, if_false, reduceIte]))
    | (show AW _ _ _ _ _ _ _ _; first | refine aw_region ?_ | (refine aw_seqk ?_; intro K hK) | refine aw_block ?_ | (apply aw_cond_t; exact rfl; exact rfl) | refine aw_exit ?_ | refine aw_skip ?_ | refine aw_drawE (id := 22) [0, 0, 3, 7, 15, 31, 0, 64, 255, 0, 0, 1536, 3584, 7680, 0, 32256, 65535, 0, 262143] [0, 0, 0, 0, 0, 1, 0, 1, 2, 0, 0, 0, 0, 0, 0, 0, 0, 3, 2, 2, 0, 4, 0, 11, 0, 13, 0] mixed (by kernel_rfl) ?_ | (apply aw_ite; exact rfl; all_goals intro h))
    | refine thn_n ?_
    | (refine hK _ _ _ ?_; clear hK K)
    | refine thn_e ?_
    | refine inb_same ?_
    | refine inb_n ?_
    | (clear hK K; refine hK _ _ _ ?_; clear hK K))); all_goals (repeat (clear hK K)))
              · have e2 : relaxW Z l.b l.a cost = Z := by rw [hrel]; exact if_neg (fun hh => by simp [hh.2.1] at h)
                refine ⟨2, id, by omega, by omega, ?_⟩
                (try dsimp only); rw [hS, e2, ← hw3]; exact ⟨by (repeat (refine ⟨by first | exact lk_i rfl rfl | exact lk_d rfl rfl | exact lk_v rfl rfl | exact lk_s rfl rfl rfl rfl | exact lk_p rfl rfl, ?_⟩)); exact trivial, by (repeat (refine ⟨by first | exact lknc rfl rfl rfl rfl (by first | rfl | exact all_noOwn_map (fun _ => rfl) | assumption | exact hclo) rfl, ?_⟩)); exact trivial, by rfl, by exact pin_0⟩
              · have e2 := hrel.trans (if_pos ⟨rfl, ‹(p.any fun y => y == l.a) = false›, h⟩)
                refine ⟨2, id, by omega, by omega, ?_⟩
                (try dsimp only); rw [hS, e2, ← hw3]; exact ⟨by (repeat (refine ⟨by first | exact lk_i rfl rfl | exact lk_d rfl rfl | exact lk_v rfl rfl | exact lk_s rfl rfl rfl rfl | exact lk_p rfl rfl, ?_⟩)); exact trivial, by (repeat (refine ⟨by first | exact lknc rfl rfl rfl (by exact hset.symm) (by first | rfl | exact all_noOwn_map (fun _ => rfl) | assumption | exact hclo) rfl, ?_⟩)); exact trivial, by rfl, by exact pin_0⟩
              · have e2 : relaxW Z l.b l.a cost = Z := by rw [hrel]; exact if_neg (fun hh => by rw [hh.2.2] at h; cases h)
                refine ⟨2, id, by omega, by omega, ?_⟩
                (try dsimp only); rw [hS, e2, ← hw3]; exact ⟨by (repeat (refine ⟨by first | exact lk_i rfl rfl | exact lk_d rfl rfl | exact lk_v rfl rfl | exact lk_s rfl rfl rfl rfl | exact lk_p rfl rfl, ?_⟩)); exact trivial, by (repeat (refine ⟨by first | exact lknc rfl rfl rfl rfl (by first | rfl | exact all_noOwn_map (fun _ => rfl) | assumption | exact hclo) rfl, ?_⟩)); exact trivial, by rfl, by exact pin_0⟩
          | 2, _ =>
            have b5 : decide (((2 : Nat) : Int) < 2) = false := by decide
            ((repeat' (first
    | (show SQ _ _ _ _ _ _ _ _; first | apply sq_nil | (apply q_move; exact rfl; exact rfl) | (apply q_assign; exact rfl; exact rfl) | (apply q_add; exact rfl; exact rfl; exact rfl) | (apply q_lss; exact rfl; exact rfl; exact rfl))
    | (show AW _ _ _ _ _ _ _ _; first | refine aw_region ?_ | (refine aw_seqk ?_; intro K hK) | (apply aw_cond_f; exact rfl; exact rfl) | refine aw_exit ?_)
    | refine thn_n ?_
    | (refine hK _ _ _ ?_; clear hK K)
    | refine thn_e ?_
    | refine inb_same ?_
    | refine inb_n ?_
    | (clear hK K; refine hK _ _ _ ?_; clear hK K))); all_goals (repeat (clear hK K)))
            all_goals (refine ⟨i + 1, id, c2, by omega, ?_⟩; (try dsimp only); rw [e1, ← hw2]; exact ⟨by (repeat (refine ⟨by first | exact lk_i rfl rfl | exact lk_d rfl rfl | exact lk_v rfl rfl | exact lk_s rfl rfl rfl rfl | exact lk_p rfl rfl, ?_⟩)); exact trivial, by (repeat (refine ⟨by first | exact lknc rfl rfl rfl rfl (by first | rfl | exact all_noOwn_map (fun _ => rfl) | assumption | exact hclo) rfl, ?_⟩)); exact trivial, by rfl, by exact pin_0⟩)
          | q + 3, hq => exact absurd hq (by omega)
    · have b2 : decide ((i : Int) < ((ls.map lnL).length : Int)) = false := by simpa using c2
      obtain rfl : i = ls.length := by omega
      ((repeat' (first
    | (show SQ _ _ _ _ _ _ _ _; first | apply sq_nil | (apply q_move; exact rfl; exact rfl) | (apply q_assign; exact rfl; exact rfl) | (apply q_fieldAddr; exact rfl; exact rfl; exact (ty rfl); exact rfl; exact rfl; exact rfl; exact rfl) | (apply q_nilc; exact rfl; exact rfl; exact rfl) | (apply q_lend; exact rfl; exact rfl; exact (ty rfl); exact rfl) | (apply q_add; exact rfl; exact rfl; exact rfl) | (apply q_lss; exact rfl; exact rfl; exact rfl) | (apply q_ld1d; exact rfl; exact rfl; exact (ty rfl); exact rfl; exact rfl))
    | (show AW _ _ _ _ _ _ _ _; first | refine aw_region ?_ | (refine aw_seqk ?_; intro K hK) | (apply aw_cond_f; exact rfl; exact (by assumption)) | refine aw_exit ?_)
    | refine thn_n ?_
    | (refine hK _ _ _ ?_; clear hK K)
    | refine thn_e ?_
    | refine inb_same ?_
    | refine inb_n ?_
    | (clear hK K; refine hK _ _ _ ?_; clear hK K))); all_goals (repeat (clear hK K)))
      all_goals (refine ⟨t + 1, id, c1, by omega, ?_⟩; (try dsimp only); rw [hN1, ← hw1]; exact ⟨by (repeat (refine ⟨by first | exact lk_i rfl rfl | exact lk_d rfl rfl | exact lk_v rfl rfl | exact lk_s rfl rfl rfl rfl | exact lk_p rfl rfl, ?_⟩)); exact trivial, by (repeat (refine ⟨by first | exact lknc rfl rfl rfl rfl (by first | rfl | exact all_noOwn_map (fun _ => rfl) | assumption | exact hclo) rfl, ?_⟩)); exact trivial, by rfl, by exact pin_0⟩)
  · have b1 : decide ((t : Int) < n) = false := by simp only [decide_eq_false_iff_not]; omega
    obtain rfl : t = n.toNat := by omega
    have hlen := hG.len
    have k1 : to.toNat < (waysN n ls may counts frm n.toNat).length := by omega
    have hr1 : ((waysN n ls may counts frm n.toNat).map wyL)[0 + to.toNat]? = some (wyL (routeW n ls may counts frm to)) := by simp [routeW, List.getD, k1]
    rw [wyL_eq] at hr1
    generalize routeW n ls may counts frm to = R at *
    ((repeat' (first
    | (show SQ _ _ _ _ _ _ _ _; first | apply sq_nil | (apply q_move; exact rfl; exact rfl) | (apply q_fieldAddr; exact rfl; exact rfl; exact (ty rfl); exact rfl; exact rfl; exact rfl; exact rfl) | (apply q_nilc; exact rfl; exact rfl; exact rfl) | (apply q_lss; exact rfl; exact rfl; exact rfl) | (apply q_ld1d; exact rfl; exact rfl; exact (ty rfl); exact rfl; exact rfl))
    | (show DE _ _ _ _ _ _ _ _ _ _ _ _; first | (apply e_move; exact rfl; exact rfl; exact rfl) | (apply e_assign; exact rfl; exact rfl; exact rfl) | (apply e_fieldAddr; exact rfl; exact rfl; exact (ty rfl); exact rfl; exact rfl; exact rfl; exact rfl; exact rfl) | (apply e_ixl; exact rfl; exact rfl; exact rfl; exact (ty rfl); exact rfl; exact rfl; exact rfl; exact (by first | omega | (simp; done) | (simp; omega)); exact (by first | omega | (simp; done) | (simp; omega)); exact rfl) | (apply e_ld1p; exact rfl; exact rfl; exact (ty rfl); exact rfl; exact rfl; exact (by first | rfl | assumption | ((try simp only [Nat.zero_add]); refine List.getElem?_set_self ?_; (try simp only [List.length_set]); assumption)); exact rfl; exact rfl))
    | (show DE _ _ _ _ _ _ _ _ _ _ _ _; (first | (apply dr_nil; exact trivial)); (try simp only [put, rowsOf, plR, List.all_cons, selE, ovr, setH, del, cellsA, splice, isV, List.nil_append, List.cons_append, List.map_cons, List.map_nil, List.length_cons, List.length_nil, List.set_cons_zero, List.set_cons_succ, List.take_succ_cons, List.take_zero, List.take_nil, List.drop_succ_cons, List.drop_zero, List.drop_nil, List.append_nil, List.all_cons, List.all_nil, Bool.and_true, Bool.true_and, Bool.and_false, Bool.false_and, Nat.reduceAdd, Nat.zero_add, Nat.add_zero, Nat.reduceEqDiff, if_true, if_false, reduceIte]))
    | (show AW _ _ _ _ _ _ _ _; first | refine aw_region ?_ | (refine aw_seqk ?_; intro K hK) | (apply aw_cond_f; exact rfl; exact (by assumption)) | refine aw_ret ?_ | refine aw_exit ?_ | refine aw_drawE (id := 25) [0, 0, 3, 7, 15, 0, 0, 96, 224, 480, 31, 2047] [0, 0, 1, 0, 1, 0, 0, 1, 0, 1, 0, 0] mixed (by kernel_rfl) ?_)
    | refine thn_n ?_
    | (refine hK _ _ _ ?_; clear hK K)
    | refine thn_e ?_
    | refine inb_same ?_
    | (clear hK K; refine hK _ _ _ ?_; clear hK K))); all_goals (repeat (clear hK K)))
    all_goals exact finc id (.r2 _ _ _ _ (.tmp _ _ rfl) (.tmp _ _ rfl)) (by simp only [renA, renL]) (fun _ _ => rfl) trivial rfl
end Go.Proofs.Ytglfcaioapdiaaa.Bk

namespace Go.Proofs.Ytglfcaioapdiaaa.Bk
open Go
set_option linter.unusedSimpArgs false
set_option linter.unusedVariables false
theorem lessL_irrefl : ∀ p : List Int, lessL p p = false
  | [] => rfl
  | x :: p => by simp only [lessL, if_true]; exact lessL_irrefl p
theorem lessL_nt : ∀ r q p : List Int, r.length = q.length → q.length = p.length → lessL r p = true → lessL r q = true ∨ lessL q p = true
  | [], [], [], _, _, h => by simp [lessL] at h
  | x :: r, y :: q, z :: p, h1, h2, h => by
    have ih := lessL_nt r q p (by simpa using h1) (by simpa using h2)
    simp only [lessL] at h ⊢
    by_cases a : x = z
    · subst a
      rw [if_pos rfl] at h
      by_cases b : x = y
      · subst b; rw [if_pos rfl, if_pos rfl]; exact ih h
      · rw [if_neg b, if_neg (fun e => b e.symm)]
        simp only [decide_eq_true_eq]; omega
    · rw [if_neg a] at h
      simp only [decide_eq_true_eq] at h
      by_cases b : x = y
      · subst b; rw [if_neg a]; right; simpa using h
      · by_cases c : y = z
        · subst c; rw [if_neg b]; left; simpa using h
        · rw [if_neg b, if_neg c]; simp only [decide_eq_true_eq]; omega
theorem lessL_asymm : ∀ p q : List Int, lessL p q = true → lessL q p = false
  | [], [], h => rfl
  | [], _ :: _, h => rfl
  | _ :: _, [], h => rfl
  | x :: p, y :: q, h => by
    simp only [lessL] at h ⊢
    by_cases a : x = y
    · subst a; rw [if_pos rfl] at h ⊢; exact lessL_asymm p q h
    · rw [if_neg a] at h
      rw [if_neg (fun e => a e.symm)]
      simp only [decide_eq_true_eq, decide_eq_false_iff_not] at h ⊢
      omega
theorem lessL_tri : ∀ p q : List Int, p.length = q.length → lessL p q = false → lessL q p = false → p = q
  | [], [], _, _, _ => rfl
  | x :: p, y :: q, h, h1, h2 => by
    simp only [lessL] at h1 h2
    by_cases a : x = y
    · subst a
      rw [if_pos rfl] at h1 h2
      rw [lessL_tri p q (by simpa using h) h1 h2]
    · rw [if_neg a] at h1
      rw [if_neg (fun e => a e.symm)] at h2
      simp only [decide_eq_false_iff_not] at h1 h2
      omega
theorem lessL_app (y : Int) : ∀ p q : List Int, p.length = q.length → lessL (p ++ [y]) (q ++ [y]) = lessL p q
  | [], [], _ => by simp [lessL]
  | x :: p, z :: q, h => by
    simp only [List.cons_append, lessL]
    rw [lessL_app y p q (by simpa using h)]
def ltK (a b : Wy) : Prop := a.c < b.c ∨ (a.c = b.c ∧ (a.p.length < b.p.length ∨ (a.p.length = b.p.length ∧ lessL a.p b.p = true)))
def leK (a b : Wy) : Prop := ¬ ltK b a
theorem better_iff {a b : Wy} (hb : b.f = true) : better a b = true ↔ ltK a b := by
  unfold better ltK
  rw [hb]
  simp only [Bool.true_eq_false, if_false]
  by_cases h1 : a.c = b.c
  · rw [if_pos h1]
    by_cases h2 : (a.p.length : Int) = (b.p.length : Int)
    · rw [if_pos h2]
      have h3 : a.p.length = b.p.length := by omega
      simp [h1, h3]
    · rw [if_neg h2]
      have h3 : a.p.length ≠ b.p.length := by omega
      simp only [decide_eq_true_eq, h1, h3, false_and, or_false, true_and]
      omega
  · rw [if_neg h1]
    simp [h1]
theorem ltK_le {a b : Wy} (h : ltK a b) : leK a b := by
  intro h2
  unfold ltK at h h2
  rcases h with u | ⟨e, u⟩ <;> rcases h2 with v | ⟨e', v⟩
  · omega
  · omega
  · omega
  · rcases u with u | ⟨el, u⟩ <;> rcases v with v | ⟨el', v⟩
    · omega
    · omega
    · omega
    · rw [lessL_asymm _ _ u] at v; cases v
theorem leK_refl (a : Wy) : leK a a := by
  unfold leK ltK
  rw [lessL_irrefl]
  simp
theorem leK_trans {a b c : Wy} (h1 : leK a b) (h2 : leK b c) : leK a c := by
  intro h
  have : ltK c b ∨ ltK b a := by
    unfold ltK at h ⊢
    rcases h with h | ⟨e, h⟩
    · by_cases q : c.c < b.c
      · exact .inl (.inl q)
      · exact .inr (.inl (by omega))
    · by_cases q : c.c < b.c
      · exact .inl (.inl q)
      by_cases q2 : b.c < a.c
      · exact .inr (.inl q2)
      have e1 : c.c = b.c := by omega
      have e2 : b.c = a.c := by omega
      rcases h with h | ⟨el, h⟩
      · by_cases q3 : c.p.length < b.p.length
        · exact .inl (.inr ⟨e1, .inl q3⟩)
        · exact .inr (.inr ⟨e2, .inl (by omega)⟩)
      · by_cases q3 : c.p.length < b.p.length
        · exact .inl (.inr ⟨e1, .inl q3⟩)
        by_cases q4 : b.p.length < a.p.length
        · exact .inr (.inr ⟨e2, .inl q4⟩)
        have l1 : c.p.length = b.p.length := by omega
        have l2 : b.p.length = a.p.length := by omega
        rcases lessL_nt _ _ _ l1 l2 h with h | h
        · exact .inl (.inr ⟨e1, .inr ⟨l1, h⟩⟩)
        · exact .inr (.inr ⟨e2, .inr ⟨l2, h⟩⟩)
  rcases this with h | h
  · exact h2 h
  · exact h1 h
theorem leK_app {a b : Wy} {y o : Int} {f g : Bool} (h : leK a b) : leK ⟨a.p ++ [y], a.c + o, f⟩ ⟨b.p ++ [y], b.c + o, g⟩ := by
  intro hh
  refine h ?_
  unfold ltK at hh ⊢
  simp only [List.length_append, List.length_singleton] at hh
  rcases hh with hh | ⟨e, hh | ⟨el, hh⟩⟩
  · exact .inl (by omega)
  · exact .inr ⟨by omega, .inl (by omega)⟩
  · rw [lessL_app _ _ _ (by omega)] at hh
    exact .inr ⟨by omega, .inr ⟨by omega, hh⟩⟩
def Lk (ls : List Ln) (may : List Bool) (counts : Bool) (x y o : Int) : Prop := ∃ i, ∃ h : i < ls.length, may.getD i false = true ∧ ((ls[i].a = x ∧ ls[i].b = y) ∨ (ls[i].a = y ∧ ls[i].b = x)) ∧ o = costW counts ls[i]
inductive Pt (E : Int → Int → Int → Prop) (s : Int) : List Int → Int → Int → Prop
  | one : Pt E s [s] 0 s
  | step {p : List Int} {c x y o : Int} (h : Pt E s p c x) (he : E x y o) (hy : y ∉ p) : Pt E s (p ++ [y]) (c + o) y
section
variable {E : Int → Int → Int → Prop} {s : Int}
theorem Pt.ne {p : List Int} {c x : Int} (h : Pt E s p c x) : p ≠ [] := by cases h <;> simp
theorem Pt.nd {p : List Int} {c x : Int} (h : Pt E s p c x) : p.Nodup := by
  induction h with
  | one => simp
  | step h he hy ih => exact List.nodup_append.2 ⟨ih, by simp, fun a ha b hb => by simp at hb; subst hb; exact fun e => hy (e ▸ ha)⟩
theorem Pt.c0 (hE : ∀ x y o, E x y o → 0 ≤ o) {p : List Int} {c x : Int} (h : Pt E s p c x) : 0 ≤ c := by
  induction h with
  | one => exact Int.le_refl _
  | step h he hy ih => have := hE _ _ _ he; omega
theorem Pt.pre (hE : ∀ x y o, E x y o → 0 ≤ o) {p : List Int} {c x : Int} (h : Pt E s p c x) : ∀ y ∈ p, ∃ q t c', p = q ++ t ∧ Pt E s q c' y ∧ c' ≤ c := by
  induction h with
  | one => intro y hy; simp at hy; subst hy; exact ⟨[y], [], 0, rfl, .one, Int.le_refl _⟩
  | @step p c x z o h he hz ih =>
    intro y hy
    have := hE _ _ _ he
    rcases List.mem_append.1 hy with h1 | h1
    · obtain ⟨q, t, c', e, hq, hc⟩ := ih y h1
      exact ⟨q, t ++ [z], c', by rw [e, List.append_assoc], hq, by omega⟩
    · simp at h1; subst h1
      exact ⟨p ++ [y], [], c + o, by simp, .step h he hz, Int.le_refl _⟩
end
def wAt (W : List Wy) (z : Int) : Wy := W.getD z.toNat wyz
structure IW (E : Int → Int → Int → Prop) (s n : Int) (W : List Wy) : Prop where
  len : W.length = n.toNat
  sound : ∀ x, 0 ≤ x → x < n → (wAt W x).f = true → Pt E s (wAt W x).p (wAt W x).c x
  pre : ∀ x, 0 ≤ x → x < n → (wAt W x).f = true → ∀ y ∈ (wAt W x).p, ∃ q t c', (wAt W x).p = q ++ t ∧ Pt E s q c' y ∧ c' ≤ (wAt W x).c ∧ (wAt W y).f = true ∧ leK (wAt W y) ⟨q, c', true⟩
def LeW (n : Int) (W W' : List Wy) : Prop := ∀ z, 0 ≤ z → z < n → (wAt W z).f = true → (wAt W' z).f = true ∧ leK (wAt W' z) (wAt W z)
theorem LeW.refl (n : Int) (W : List Wy) : LeW n W W := fun z _ _ h => ⟨h, leK_refl _⟩
theorem LeW.trans {n : Int} {W W' W'' : List Wy} (h : LeW n W W') (g : LeW n W' W'') : LeW n W W'' := fun z h0 h1 hf => by
  obtain ⟨a, b⟩ := h z h0 h1 hf
  obtain ⟨c, d⟩ := g z h0 h1 a
  exact ⟨c, leK_trans d b⟩
theorem wAt_set {n : Int} {W : List Wy} (hl : W.length = n.toNat) {y : Int} (hy : 0 ≤ y ∧ y < n) (v : Wy) {z : Int} (hz : 0 ≤ z) (hz1 : z < n) : wAt (W.set y.toNat v) z = if z = y then v else wAt W z := by
  unfold wAt
  simp only [List.getD, List.getElem?_set]
  by_cases e : z = y
  · subst e; simp only [if_true]; rw [if_pos (by omega)]; rfl
  · rw [if_neg (by omega), if_neg e]
section
variable {E : Int → Int → Int → Prop} {s n : Int} (hE : ∀ x y o, E x y o → 0 ≤ o ∧ (0 ≤ x ∧ x < n) ∧ (0 ≤ y ∧ y < n)) (hs : 0 ≤ s ∧ s < n)
include hE hs
theorem Pt.rng {p : List Int} {c x : Int} (h : Pt E s p c x) : (∀ y ∈ p, 0 ≤ y ∧ y < n) ∧ 0 ≤ x ∧ x < n := by
  induction h with
  | one => exact ⟨fun y hy => by simp at hy; subst hy; exact hs, hs⟩
  | step h he hy ih =>
    obtain ⟨_, h1, h2⟩ := hE _ _ _ he
    refine ⟨fun z hz => ?_, h2⟩
    rcases List.mem_append.1 hz with hz | hz
    · exact ih.1 z hz
    · simp at hz; subst hz; exact h2
theorem relax_spec {W : List Wy} (hI : IW E s n W) {x y o : Int} (he : E x y o) : IW E s n (relaxW W x y o) ∧ LeW n W (relaxW W x y o) ∧
    ((wAt W x).f = true → ∀ q c, Pt E s q c x → leK (wAt W x) ⟨q, c, true⟩ → y ∉ q → (wAt (relaxW W x y o) y).f = true ∧ leK (wAt (relaxW W x y o) y) ⟨q ++ [y], c + o, true⟩) := by
  obtain ⟨o0, hx, hy⟩ := hE _ _ _ he
  have hE0 : ∀ x y o, E x y o → 0 ≤ o := fun x y o h => (hE x y o h).1
  by_cases hc : (wAt W x).f = true ∧ ((wAt W x).p.any fun z => z == y) = false ∧ better (nextW W x y o) (wAt W y) = true
  · have e1 : relaxW W x y o = W.set y.toNat (nextW W x y o) := if_pos hc
    obtain ⟨hf, hh, hb⟩ := hc
    have hny : y ∉ (wAt W x).p := by
      simp only [List.any_eq_false, beq_iff_eq] at hh
      exact fun hm => hh y hm rfl
    have hw := hI.sound x hx.1 hx.2 hf
    have hnx : nextW W x y o = ⟨(wAt W x).p ++ [y], (wAt W x).c + o, true⟩ := rfl
    have hP : Pt E s (nextW W x y o).p (nextW W x y o).c y := .step hw he hny
    have hat : ∀ z, 0 ≤ z → z < n → wAt (relaxW W x y o) z = if z = y then nextW W x y o else wAt W z := fun z h0 h1 => by
      rw [e1]; exact wAt_set hI.len hy _ h0 h1
    have hle : LeW n W (relaxW W x y o) := fun z h0 h1 hfz => by
      rw [hat z h0 h1]
      by_cases ez : z = y
      · subst ez
        rw [if_pos rfl]
        exact ⟨rfl, ltK_le ((better_iff hfz).1 hb)⟩
      · rw [if_neg ez]; exact ⟨hfz, leK_refl _⟩
    refine ⟨⟨by rw [e1, List.length_set]; exact hI.len, fun z h0 h1 hfz => ?_, fun z h0 h1 hfz u hu => ?_⟩, hle, fun _ q c hq hle' hyq => ?_⟩
    · rw [hat z h0 h1] at hfz ⊢
      by_cases ez : z = y
      · subst ez; rw [if_pos rfl]; exact hP
      · rw [if_neg ez] at hfz ⊢; exact hI.sound z h0 h1 hfz
    · rw [hat z h0 h1] at hfz hu ⊢
      by_cases ez : z = y
      · subst ez
        rw [if_pos rfl] at hu ⊢
        rw [hnx] at hu ⊢
        rcases List.mem_append.1 hu with hu | hu
        · obtain ⟨q, t, c', g1, g2, g3, g4, g5⟩ := hI.pre x hx.1 hx.2 hf u hu
          have hur := (Pt.rng hE hs hw).1 u hu
          obtain ⟨k1, k2⟩ := hle u hur.1 hur.2 g4
          exact ⟨q, t ++ [z], c', by simp only; rw [g1, List.append_assoc], g2, by simp only; omega, k1, leK_trans k2 g5⟩
        · simp at hu; subst hu
          refine ⟨(wAt W x).p ++ [u], [], (wAt W x).c + o, by simp, hP, Int.le_refl _, ?_, ?_⟩
          · rw [hat u h0 h1, if_pos rfl]; rfl
          · rw [hat u h0 h1, if_pos rfl, hnx]; exact leK_refl _
      · rw [if_neg ez] at hfz hu ⊢
        obtain ⟨q, t, c', g1, g2, g3, g4, g5⟩ := hI.pre z h0 h1 hfz u hu
        have hur := (Pt.rng hE hs (hI.sound z h0 h1 hfz)).1 u hu
        obtain ⟨k1, k2⟩ := hle u hur.1 hur.2 g4
        exact ⟨q, t, c', g1, g2, g3, k1, leK_trans k2 g5⟩
    · rw [hat y hy.1 hy.2, if_pos rfl, hnx]
      exact ⟨rfl, leK_app hle'⟩
  · have e1 : relaxW W x y o = W := if_neg hc
    rw [e1]
    refine ⟨hI, LeW.refl n W, fun hf q c hq hle' hyq => ?_⟩
    have hw := hI.sound x hx.1 hx.2 hf
    by_cases hm : y ∈ (wAt W x).p
    · obtain ⟨q', t, c', g1, g2, g3, g4, g5⟩ := hI.pre x hx.1 hx.2 hf y hm
      refine ⟨g4, leK_trans g5 ?_⟩
      intro hlt
      refine hle' ?_
      have hlen : q'.length ≤ (wAt W x).p.length := by rw [g1, List.length_append]; omega
      unfold ltK at hlt ⊢
      simp only [List.length_append, List.length_singleton] at hlt
      dsimp only at hlt ⊢
      by_cases a1 : c < (wAt W x).c
      · exact .inl a1
      · by_cases a2 : (wAt W x).c < c
        · omega
        · refine .inr ⟨by omega, .inl ?_⟩
          rcases hlt with hlt | ⟨e, hlt | ⟨el, hlt⟩⟩ <;> omega
    · have hh : ((wAt W x).p.any fun z => z == y) = false := by
        simp only [List.any_eq_false, beq_iff_eq]
        exact fun z hz e => hm (e ▸ hz)
      have hb : ¬ better (nextW W x y o) (wAt W y) = true := fun hb => hc ⟨hf, hh, hb⟩
      have hfy : (wAt W y).f = true := by
        cases hfy : (wAt W y).f with
        | true => rfl
        | false => exact absurd (by unfold better; rw [hfy]; simp) hb
      refine ⟨hfy, ?_⟩
      have h1 : leK (wAt W y) (nextW W x y o) := fun h => hb ((better_iff hfy).2 h)
      exact leK_trans h1 (leK_app hle')
theorem turn_spec {ls : List Ln} {may : List Bool} {counts : Bool} (hEd : E = Lk ls may counts) {W : List Wy} (hI : IW E s n W) : ∀ i, i ≤ ls.length → IW E s n (turnW ls may counts W i) ∧ LeW n W (turnW ls may counts W i) ∧
    ∀ j, j < i → ∀ x y o, (∃ h : j < ls.length, may.getD j false = true ∧ ((ls[j].a = x ∧ ls[j].b = y) ∨ (ls[j].a = y ∧ ls[j].b = x)) ∧ o = costW counts ls[j]) → (wAt W x).f = true → ∀ q c, Pt E s q c x → leK (wAt W x) ⟨q, c, true⟩ → y ∉ q →
      (wAt (turnW ls may counts W i) y).f = true ∧ leK (wAt (turnW ls may counts W i) y) ⟨q ++ [y], c + o, true⟩
  | 0, _ => ⟨hI, LeW.refl n W, fun j hj => absurd hj (by omega)⟩
  | i + 1, hi => by
    obtain ⟨g1, g2, g3⟩ := turn_spec hEd hI i (by omega)
    have hil : i < ls.length := by omega
    have hD : ls.getD i lnz = ls[i] := by simp [List.getD, hil]
    generalize hV : turnW ls may counts W i = V at g1 g2 g3
    have hT : turnW ls may counts W (i + 1) = linkW counts V ls[i] (may.getD i false) := by simp only [turnW, hD, hV]
    cases hm : may.getD i false with
    | false =>
      have e1 : turnW ls may counts W (i + 1) = V := by rw [hT, hm]; rfl
      rw [e1]
      refine ⟨g1, g2, fun j hj x y o hl hf q c hq hle hy => ?_⟩
      by_cases hji : j < i
      · exact g3 j hji x y o hl hf q c hq hle hy
      · have : j = i := by omega
        subst this
        obtain ⟨_, hm', _⟩ := hl
        rw [hm] at hm'; cases hm'
    | true =>
      have e1 : turnW ls may counts W (i + 1) = relaxW (relaxW V ls[i].a ls[i].b (costW counts ls[i])) ls[i].b ls[i].a (costW counts ls[i]) := by rw [hT, hm]; rfl
      have k1 : E ls[i].a ls[i].b (costW counts ls[i]) := by rw [hEd]; exact ⟨i, hil, hm, .inl ⟨rfl, rfl⟩, rfl⟩
      have k2 : E ls[i].b ls[i].a (costW counts ls[i]) := by rw [hEd]; exact ⟨i, hil, hm, .inr ⟨rfl, rfl⟩, rfl⟩
      obtain ⟨a1, a2, a3⟩ := relax_spec hE hs g1 k1
      obtain ⟨b1, b2, b3⟩ := relax_spec hE hs a1 k2
      rw [e1]
      generalize relaxW V ls[i].a ls[i].b (costW counts ls[i]) = V1 at a1 a2 a3 b1 b2 b3 ⊢
      generalize relaxW V1 ls[i].b ls[i].a (costW counts ls[i]) = V2 at b1 b2 b3 ⊢
      refine ⟨b1, (g2.trans a2).trans b2, fun j hj x y o hl hf q c hq hle hy => ?_⟩
      have lift : ∀ {A B : List Wy}, LeW n A B → 0 ≤ y → y < n → (wAt A y).f = true ∧ leK (wAt A y) ⟨q ++ [y], c + o, true⟩ → (wAt B y).f = true ∧ leK (wAt B y) ⟨q ++ [y], c + o, true⟩ := fun h h0 h1 ⟨p1, p2⟩ => by
        obtain ⟨r1, r2⟩ := h y h0 h1 p1
        exact ⟨r1, leK_trans r2 p2⟩
      have hxy : E x y o := by obtain ⟨hjl, hmj, hor, ho⟩ := hl; rw [hEd]; exact ⟨j, hjl, hmj, hor, ho⟩
      obtain ⟨_, hx, hyr⟩ := hE _ _ _ hxy
      by_cases hji : j < i
      · exact lift b2 hyr.1 hyr.2 (lift a2 hyr.1 hyr.2 (g3 j hji x y o hl hf q c hq hle hy))
      · have : j = i := by omega
        subst this
        obtain ⟨_, _, hor, ho⟩ := hl
        subst ho
        rcases hor with ⟨ha, hb⟩ | ⟨ha, hb⟩
        · subst ha hb
          obtain ⟨f1, l1⟩ := g2 _ hx.1 hx.2 hf
          exact lift b2 hyr.1 hyr.2 (a3 f1 q c hq (leK_trans l1 hle) hy)
        · subst ha hb
          obtain ⟨f1, l1⟩ := (g2.trans a2) _ hx.1 hx.2 hf
          exact b3 f1 q c hq (leK_trans l1 hle) hy
omit hE in
theorem ways_start (hEd : True) : IW E s n (ways0 n s) ∧ (wAt (ways0 n s) s).f = true ∧ leK (wAt (ways0 n s) s) ⟨[s], 0, true⟩ := by
  have hl : (List.replicate n.toNat wyz).length = n.toNat := by simp
  have hat : ∀ z, 0 ≤ z → z < n → wAt (ways0 n s) z = if z = s then ⟨[s], 0, true⟩ else wyz := fun z h0 h1 => by
    unfold ways0
    rw [wAt_set hl hs _ h0 h1]
    split
    · rfl
    · unfold wAt
      simp only [List.getD, List.getElem?_replicate]
      split <;> rfl
  refine ⟨⟨by simp [ways0], fun x h0 h1 hf => ?_, fun x h0 h1 hf y hy => ?_⟩, ?_, ?_⟩
  · rw [hat x h0 h1] at hf ⊢
    split at hf
    · rename_i e; subst e; rw [if_pos rfl]; exact .one
    · cases hf
  · rw [hat x h0 h1] at hf hy ⊢
    split at hf
    · rename_i e; subst e
      rw [if_pos rfl] at hy ⊢
      simp at hy; subst hy
      exact ⟨[y], [], 0, rfl, .one, Int.le_refl _, by rw [hat y h0 h1, if_pos rfl], by rw [hat y h0 h1, if_pos rfl]; exact leK_refl _⟩
    · cases hf
  · rw [hat s hs.1 hs.2, if_pos rfl]
  · rw [hat s hs.1 hs.2, if_pos rfl]; exact leK_refl _
theorem ways_spec {ls : List Ln} {may : List Bool} {counts : Bool} (hEd : E = Lk ls may counts) : ∀ t, IW E s n (waysN n ls may counts s t) ∧
    ∀ p c y, Pt E s p c y → p.length ≤ t + 1 → (wAt (waysN n ls may counts s t) y).f = true ∧ leK (wAt (waysN n ls may counts s t) y) ⟨p, c, true⟩
  | 0 => by
    obtain ⟨h1, h2, h3⟩ := ways_start (E := E) hs trivial
    refine ⟨h1, fun p c y hp hl => ?_⟩
    cases hp with
    | one => exact ⟨h2, h3⟩
    | step h he hy =>
      have := h.ne
      rename_i p' _ _ _
      cases p' with
      | nil => exact absurd rfl this
      | cons a b => simp at hl
  | t + 1 => by
    obtain ⟨h1, h2⟩ := ways_spec hEd t
    obtain ⟨g1, g2, g3⟩ := turn_spec hE hs hEd h1 ls.length (Nat.le_refl _)
    refine ⟨g1, fun p c y hp hl => ?_⟩
    cases hp with
    | one =>
      obtain ⟨f1, l1⟩ := h2 [s] 0 s .one (by simp)
      obtain ⟨f2, l2⟩ := g2 s hs.1 hs.2 f1
      exact ⟨f2, leK_trans l2 l1⟩
    | @step p c x _ o h he hy =>
      simp only [List.length_append, List.length_singleton] at hl
      obtain ⟨f1, l1⟩ := h2 p c x h (by omega)
      have he' := he
      rw [hEd] at he'
      obtain ⟨i, hi, hm, hor, ho⟩ := he'
      exact g3 i hi x y o ⟨hi, hm, hor, ho⟩ f1 p c h l1 hy
theorem route_spec {ls : List Ln} {may : List Bool} {counts : Bool} (hEd : E = Lk ls may counts) {to : Int} (ht : 0 ≤ to ∧ to < n) :
    ((routeW n ls may counts s to).f = true → Pt E s (routeW n ls may counts s to).p (routeW n ls may counts s to).c to) ∧
    ∀ p c, Pt E s p c to → (routeW n ls may counts s to).f = true ∧ leK (routeW n ls may counts s to) ⟨p, c, true⟩ := by
  obtain ⟨h1, h2⟩ := ways_spec hE hs hEd n.toNat
  refine ⟨fun hf => h1.sound to ht.1 ht.2 hf, fun p c hp => h2 p c to hp ?_⟩
  have := pigeon n.toNat p hp.nd fun x hx => by have := (Pt.rng hE hs hp).1 x hx; omega
  omega
end
end Go.Proofs.Ytglfcaioapdiaaa.Bk

-- How far each node is: the program's rounds, in plain terms.
namespace Go.Proofs.Ytglfcaioapdiaaa.Bk
open Go
set_option linter.unusedSimpArgs false
set_option linter.unusedVariables false
abbrev Far := List (Int × Int × Int)
def fget : Far → Int → Option (Int × Int)
  | [], _ => none
  | (x, v) :: F, k => if k == x then some v else fget F k
def fset : Far → Int → Int × Int → Far
  | [], k, v => [(k, v)]
  | (x, u) :: F, k, v => if k == x then (k, v) :: F else (x, u) :: fset F k v
theorem fget_fset (F : Far) (k : Int) (v : Int × Int) (j : Int) : fget (fset F k v) j = if j = k then some v else fget F j := by
  induction F with
  | nil => simp [fset, fget]
  | cons p F ih =>
    obtain ⟨x, u⟩ := p
    simp only [fset]
    by_cases h : k = x
    · subst h
      simp only [beq_self_eq_true, if_true, fget]
      by_cases hj : j = k
      · simp [hj]
      · simp [hj]
    · have hb : (k == x) = false := by simpa using h
      simp only [hb, Bool.false_eq_true, if_false, fget, ih]
      by_cases hj : j = x
      · subst hj
        have : ¬ j = k := fun e => h e.symm
        simp [this]
      · simp [hj]
def fc (F : Far) (k : Int) : Int := ((fget F k).getD (0, 0)).1
def fl (F : Far) (k : Int) : Int := ((fget F k).getD (0, 0)).2
def fh (F : Far) (k : Int) : Bool := (fget F k).isSome
theorem fget_of {F : Far} {k : Int} (h : fh F k = true) : fget F k = some (fc F k, fl F k) := by
  unfold fh fc fl at *
  cases hg : fget F k with
  | none => rw [hg] at h; cases h
  | some v => rfl
def lessF (a b : Int × Int) : Bool := decide (a.1 < b.1) || (a.1 == b.1 && decide (a.2 < b.2))
def leF (a b : Int × Int) : Prop := a.1 < b.1 ∨ (a.1 = b.1 ∧ a.2 ≤ b.2)
theorem leF_refl (a : Int × Int) : leF a a := .inr ⟨rfl, Int.le_refl _⟩
theorem leF_trans {a b c : Int × Int} (h : leF a b) (g : leF b c) : leF a c := by unfold leF at *; omega
theorem leF_of_less {a b : Int × Int} (h : lessF a b = true) : leF a b := by unfold lessF leF at *; simp at h; omega
theorem leF_of_not {a b : Int × Int} (h : lessF a b = false) : leF b a := by unfold lessF leF at *; simp at h; omega
def fimp (F : Far) (x y o : Int) : Bool := fh F x && (!fh F y || lessF (fc F x + o, fl F x + 1) (fc F y, fl F y))
def fstep (s : Far × Bool) (x y o : Int) : Far × Bool := if fimp s.1 x y o then (fset s.1 y (fc s.1 x + o, fl s.1 x + 1), true) else s
def ftwo (s : Far × Bool) (l : Ln) : Nat → Far × Bool
  | 0 => s
  | 1 => fstep s l.a l.b l.o
  | _ => fstep (fstep s l.a l.b l.o) l.b l.a l.o
def fpass (ls : List Ln) (s : Far × Bool) : Nat → Far × Bool
  | 0 => s
  | i + 1 => ftwo (fpass ls s i) (ls.getD i lnz) 2
def EL (ls : List Ln) (x y o : Int) : Prop := ∃ l ∈ ls, ((l.a = x ∧ l.b = y) ∨ (l.a = y ∧ l.b = x)) ∧ o = l.o
theorem EL.symm {ls : List Ln} {x y o : Int} (h : EL ls x y o) : EL ls y x o := by
  obtain ⟨l, hl, h, e⟩ := h
  exact ⟨l, hl, h.symm, e⟩
theorem EL.ok {n : Int} {ls : List Ln} (hL : LnsOk n ls) {x y o : Int} (h : EL ls x y o) : 0 ≤ o ∧ (0 ≤ x ∧ x < n) ∧ (0 ≤ y ∧ y < n) := by
  obtain ⟨l, hl, h, e⟩ := h
  obtain ⟨h1, h2, h3⟩ := hL l hl
  rcases h with ⟨h, h'⟩ | ⟨h, h'⟩ <;> subst h h' e
  · exact ⟨h3.1, h1, h2⟩
  · exact ⟨h3.1, h2, h1⟩
theorem EL.le {n : Int} {ls : List Ln} (hL : LnsOk n ls) {x y o : Int} (h : EL ls x y o) : o ≤ 1000000 := by
  obtain ⟨l, hl, h, e⟩ := h
  subst e; exact (hL l hl).2.2.2
section
variable {E : Int → Int → Int → Prop} {s : Int}
theorem Pt.c1 {M : Int} (hE : ∀ x y o, E x y o → o ≤ M) {p : List Int} {c x : Int} (h : Pt E s p c x) : c ≤ M * ((p.length : Int) - 1) := by
  induction h with
  | one => simp
  | step h he hy ih =>
    have := hE _ _ _ he
    simp only [List.length_append, List.length_singleton]
    rw [Int.natCast_add, show ∀ L : Int, L + ((1 : Nat) : Int) - 1 = (L - 1) + 1 from fun L => by omega, Int.mul_add, Int.mul_one]
    omega
structure FG (E : Int → Int → Int → Prop) (s n : Int) (F : Far) : Prop where
  pth : ∀ x c l, fget F x = some (c, l) → ∃ p, Pt E s p c x ∧ (p.length : Int) = l + 1 ∧ ∀ y ∈ p, ∃ q t c', p = q ++ t ∧ Pt E s q c' y ∧ c' ≤ c ∧ ∃ v, fget F y = some v ∧ leF v (c', (q.length : Int) - 1)
  st : ∃ v, fget F s = some v ∧ leF v (0, 0)
variable {n : Int} (hE : ∀ x y o, E x y o → 0 ≤ o ∧ (0 ≤ x ∧ x < n) ∧ (0 ≤ y ∧ y < n)) (hs : 0 ≤ s ∧ s < n)
include hE hs
theorem FG.bd (hM : ∀ x y o, E x y o → o ≤ 1000000) (hn : n ≤ 12) {F : Far} (h : FG E s n F) {x c l : Int} (hg : fget F x = some (c, l)) : 0 ≤ c ∧ c ≤ 12000000 ∧ 0 ≤ l ∧ l ≤ 11 ∧ 0 ≤ x ∧ x < n := by
  obtain ⟨p, hp, hl, _⟩ := h.pth x c l hg
  have h0 := hp.c0 (fun x y o h => (hE x y o h).1)
  have h1 := hp.c1 hM
  have h2 := Pt.rng hE hs hp
  have h3 := pigeon n.toNat p hp.nd fun y hy => by have := h2.1 y hy; omega
  have h4 : p.length ≠ 0 := fun e => hp.ne (List.length_eq_zero_iff.1 e)
  refine ⟨h0, ?_, by omega, by omega, h2.2⟩
  omega
theorem FG.bc (hM : ∀ x y o, E x y o → o ≤ 1000000) (hn : n ≤ 12) {F : Far} (h : FG E s n F) (x : Int) : 0 ≤ fc F x ∧ fc F x ≤ 12000000 ∧ 0 ≤ fl F x ∧ fl F x ≤ 11 := by
  cases hg : fget F x with
  | none => simp [fc, fl, hg]
  | some v =>
    have := FG.bd hE hs hM hn h (c := v.1) (l := v.2) (by rw [hg])
    simp only [fc, fl, hg, Option.getD_some]
    omega
omit hs in
theorem FG.step {F : Far} (h : FG E s n F) {x y o : Int} (he : E x y o) (hi : fimp F x y o = true) : FG E s n (fset F y (fc F x + o, fl F x + 1)) ∧ (∀ z v, fget F z = some v → ∃ v', fget (fset F y (fc F x + o, fl F x + 1)) z = some v' ∧ leF v' v) := by
  simp only [fimp, Bool.and_eq_true, Bool.or_eq_true, Bool.not_eq_true'] at hi
  obtain ⟨hx, hi⟩ := hi
  have hgx := fget_of hx
  obtain ⟨p, hp, hl, hpre⟩ := h.pth x _ _ hgx
  have o0 := (hE _ _ _ he).1
  have hold : ∀ v, fget F y = some v → lessF (fc F x + o, fl F x + 1) v = true := fun v hv => by
    rcases hi with hi | hi
    · unfold fh at hi; rw [hv] at hi; cases hi
    · have : v = (fc F y, fl F y) := by simp [fc, fl, hv]
      rw [this]; exact hi
  have hy : y ∉ p := fun hm => by
    obtain ⟨q, t, c', e, hq, hc, v, hv, hle⟩ := hpre y hm
    have h1 := hold v hv
    have h2 : q.length ≤ p.length := by rw [e]; simp
    unfold lessF leF at *
    simp only [Bool.or_eq_true, Bool.and_eq_true, decide_eq_true_eq, beq_iff_eq] at h1 hle
    omega
  have mono : ∀ z v, fget F z = some v → ∃ v', fget (fset F y (fc F x + o, fl F x + 1)) z = some v' ∧ leF v' v := fun z v hv => by
    rw [fget_fset]
    by_cases hz : z = y
    · subst hz; rw [if_pos rfl]; exact ⟨_, rfl, leF_of_less (hold v hv)⟩
    · rw [if_neg hz]; exact ⟨v, hv, leF_refl v⟩
  refine ⟨⟨fun z c l hz => ?_, ?_⟩, mono⟩
  · rw [fget_fset] at hz
    by_cases hzy : z = y
    · subst hzy
      rw [if_pos rfl] at hz
      simp only [Option.some.injEq, Prod.mk.injEq] at hz
      obtain ⟨rfl, rfl⟩ := hz
      refine ⟨p ++ [z], .step hp he hy, by simp; omega, fun u hu => ?_⟩
      rcases List.mem_append.1 hu with hu | hu
      · obtain ⟨q, t, c', e, hq, hc, v, hv, hle⟩ := hpre u hu
        obtain ⟨v', hv', hle'⟩ := mono u v hv
        exact ⟨q, t ++ [z], c', by rw [e, List.append_assoc], hq, by omega, v', hv', leF_trans hle' hle⟩
      · simp at hu; subst hu
        exact ⟨p ++ [u], [], fc F x + o, by simp, .step hp he hy, Int.le_refl _, (fc F x + o, fl F x + 1), by rw [fget_fset, if_pos rfl], .inr ⟨rfl, by simp only [List.length_append, List.length_singleton]; omega⟩⟩
    · rw [if_neg hzy] at hz
      obtain ⟨p', hp', hl', hpre'⟩ := h.pth z c l hz
      refine ⟨p', hp', hl', fun u hu => ?_⟩
      obtain ⟨q, t, c', e, hq, hc, v, hv, hle⟩ := hpre' u hu
      obtain ⟨v', hv', hle'⟩ := mono u v hv
      exact ⟨q, t, c', e, hq, hc, v', hv', leF_trans hle' hle⟩
  · obtain ⟨v, hv, hle⟩ := h.st
    obtain ⟨v', hv', hle'⟩ := mono s v hv
    exact ⟨v', hv', leF_trans hle' hle⟩
omit hE hs in
theorem FG.start : FG E s n [(s, 0, 0)] := by
  refine ⟨fun x c l h => ?_, ⟨(0, 0), by simp [fget], leF_refl _⟩⟩
  simp only [fget] at h
  split at h
  · rename_i e
    simp only [beq_iff_eq] at e
    subst e
    simp only [Option.some.injEq, Prod.mk.injEq] at h
    obtain ⟨rfl, rfl⟩ := h
    refine ⟨[x], .one, by simp, fun y hy => ?_⟩
    simp at hy; subst hy
    exact ⟨[y], [], 0, rfl, .one, Int.le_refl _, (0, 0), by simp [fget], .inr ⟨rfl, by simp⟩⟩
  · cases h
def mu1 : Option (Int × Int) → Nat
  | none => 2 ^ 40
  | some (c, l) => (c * 64 + l).toNat
def mu (n : Int) (F : Far) : Nat := ((List.range n.toNat).map fun (i : Nat) => mu1 (fget F (i : Int))).sum
omit hE hs in
theorem sum_le {f g : Nat → Nat} : ∀ l : List Nat, (∀ i ∈ l, f i ≤ g i) → (l.map f).sum ≤ (l.map g).sum
  | [], _ => Nat.le_refl _
  | i :: l, h => by
    have h1 := h i List.mem_cons_self
    have h2 := sum_le l fun j hj => h j (List.mem_cons_of_mem _ hj)
    simp only [List.map_cons, List.sum_cons]
    omega
omit hE hs in
theorem sum_lt {f g : Nat → Nat} : ∀ l : List Nat, (∀ i ∈ l, f i ≤ g i) → (∃ i ∈ l, f i < g i) → (l.map f).sum < (l.map g).sum
  | [], _, h => by obtain ⟨i, hi, _⟩ := h; cases hi
  | i :: l, h, hx => by
    have h1 := h i List.mem_cons_self
    have h2 := sum_le l fun j hj => h j (List.mem_cons_of_mem _ hj)
    simp only [List.map_cons, List.sum_cons]
    obtain ⟨j, hj, hlt⟩ := hx
    rcases List.mem_cons.1 hj with rfl | hj
    · omega
    · have := sum_lt l (fun j hj => h j (List.mem_cons_of_mem _ hj)) ⟨j, hj, hlt⟩
      omega
theorem FG.mu_lt (hM : ∀ x y o, E x y o → o ≤ 1000000) (hn : n ≤ 12) {F : Far} (h : FG E s n F) {x y o : Int} (he : E x y o) (hi : fimp F x y o = true) : mu n (fset F y (fc F x + o, fl F x + 1)) < mu n F := by
  obtain ⟨o0, hx, hy⟩ := hE _ _ _ he
  have bx := FG.bc hE hs hM hn h x
  have by_ := FG.bc hE hs hM hn h y
  have oM := hM _ _ _ he
  have key : mu1 (some (fc F x + o, fl F x + 1)) < mu1 (fget F y) := by
    simp only [fimp, Bool.and_eq_true, Bool.or_eq_true, Bool.not_eq_true'] at hi
    rcases hi.2 with hi | hi
    · have : fget F y = none := by unfold fh at hi; simpa using hi
      rw [this]; simp only [mu1]; omega
    · cases hf : fh F y with
      | false =>
        have : fget F y = none := by unfold fh at hf; simpa using hf
        rw [this]; simp only [mu1]; omega
      | true =>
        rw [fget_of hf]
        simp only [mu1]
        unfold lessF at hi
        simp only [Bool.or_eq_true, Bool.and_eq_true, decide_eq_true_eq, beq_iff_eq] at hi
        omega
  refine sum_lt _ (fun i hi' => ?_) ⟨y.toNat, List.mem_range.2 (by omega), ?_⟩
  · rw [fget_fset]
    split
    · rename_i e; rw [e]; omega
    · exact Nat.le_refl _
  · rw [fget_fset, if_pos (by omega), show ((y.toNat : Nat) : Int) = y by omega]
    exact key
end
end Go.Proofs.Ytglfcaioapdiaaa.Bk

-- How far each node is: where the rounds end; the way along it.
namespace Go.Proofs.Ytglfcaioapdiaaa.Bk
open Go
set_option linter.unusedSimpArgs false
set_option linter.unusedVariables false
section
variable {n s : Int} {ls : List Ln} (hL : LnsOk n ls) (hn : n ≤ 12) (hs : 0 ≤ s ∧ s < n)
structure FS (n s : Int) (ls : List Ln) (F : Far) (st : Far × Bool) : Prop where
  good : FG (EL ls) s n st.1
  up : st.2 = true → mu n st.1 < mu n F
  same : st.2 = false → st.1 = F
include hL hn hs
theorem FS.step {F : Far} {st : Far × Bool} (h : FS n s ls F st) {x y o : Int} (he : EL ls x y o) : FS n s ls F (fstep st x y o) := by
  unfold fstep
  split
  · rename_i hi
    have hE := fun x y o (h : EL ls x y o) => EL.ok hL h
    refine ⟨(FG.step hE h.good he hi).1, fun _ => ?_, fun h => by cases h⟩
    have h1 := FG.mu_lt hE hs (fun x y o h => EL.le hL h) hn h.good he hi
    cases hb : st.2 with
    | true => have := h.up hb; simp only at h1 ⊢; omega
    | false => have := h.same hb; simp only; rw [this] at h1 ⊢; exact h1
  · exact h
omit hL hn hs in
theorem EL.of {l : Ln} (h : l ∈ ls) : EL ls l.a l.b l.o := ⟨l, h, .inl ⟨rfl, rfl⟩, rfl⟩
theorem FS.two {F : Far} {st : Far × Bool} (h : FS n s ls F st) {l : Ln} (hl : l ∈ ls) : ∀ k, FS n s ls F (ftwo st l k)
  | 0 => h
  | 1 => FS.step hL hn hs h (EL.of hl)
  | _ + 2 => FS.step hL hn hs (FS.step hL hn hs h (EL.of hl)) (EL.of hl).symm
theorem FS.pass {F : Far} {st : Far × Bool} (h : FS n s ls F st) : ∀ i, i ≤ ls.length → FS n s ls F (fpass ls st i)
  | 0, _ => h
  | i + 1, hi => by
    have : ls.getD i lnz ∈ ls := by simp [List.getD, show i < ls.length by omega]
    exact FS.two hL hn hs (FS.pass h i (by omega)) this 2
omit hL hn hs in
theorem fstep_up {st : Far × Bool} {x y o : Int} (h : (fstep st x y o).2 = false) : st.2 = false ∧ fimp st.1 x y o = false ∧ fstep st x y o = st := by
  unfold fstep at h ⊢
  cases hi : fimp st.1 x y o with
  | true => rw [hi] at h; simp at h
  | false => rw [hi] at h; simpa using h
omit hL hn hs in
theorem fpass_fix {st : Far × Bool} : ∀ i, i ≤ ls.length → (fpass ls st i).2 = false → st.2 = false ∧ fpass ls st i = st ∧ ∀ j, j < i → fimp st.1 (ls.getD j lnz).a (ls.getD j lnz).b (ls.getD j lnz).o = false ∧ fimp st.1 (ls.getD j lnz).b (ls.getD j lnz).a (ls.getD j lnz).o = false
  | 0, _, h => ⟨h, rfl, fun j hj => absurd hj (Nat.not_lt_zero _)⟩
  | i + 1, hi, h => by
    simp only [fpass, ftwo] at h ⊢
    obtain ⟨a1, a2, a3⟩ := fstep_up h
    obtain ⟨b1, b2, b3⟩ := fstep_up a1
    obtain ⟨c1, c2, c3⟩ := fpass_fix i (by omega) b1
    rw [a3, b3, c2]
    rw [b3, c2] at a2
    rw [c2] at b2
    refine ⟨c1, rfl, fun j hj => ?_⟩
    by_cases e : j = i
    · subst e; exact ⟨b2, a2⟩
    · exact c3 j (by omega)
def farF (ls : List Ln) : Nat → Far → Far
  | 0, F => F
  | k + 1, F => if (fpass ls (F, false) ls.length).2 = true then farF ls k (fpass ls (F, false) ls.length).1 else (fpass ls (F, false) ls.length).1
def Fix (ls : List Ln) (F : Far) : Prop := ∀ x y o, EL ls x y o → fimp F x y o = false
omit hL hn hs in
theorem fix_of {F : Far} (h : (fpass ls (F, false) ls.length).2 = false) : Fix ls F := fun x y o he => by
  obtain ⟨l, hl, hor, ho⟩ := he
  obtain ⟨_, _, h3⟩ := fpass_fix ls.length (Nat.le_refl _) h
  obtain ⟨i, hi, e⟩ := List.getElem_of_mem hl
  have := h3 i hi
  have hD : ls.getD i lnz = l := by simp [List.getD, hi, e]
  rw [hD] at this
  subst ho
  rcases hor with ⟨h1, h2⟩ | ⟨h1, h2⟩ <;> subst h1 h2
  · exact this.1
  · exact this.2
theorem farF_spec : ∀ (k : Nat) (F : Far), FG (EL ls) s n F → mu n F < k → FG (EL ls) s n (farF ls k F) ∧ Fix ls (farF ls k F)
  | 0, F, _, h => absurd h (Nat.not_lt_zero _)
  | k + 1, F, hF, h => by
    have hp := FS.pass hL hn hs (F := F) (st := (F, false)) ⟨hF, fun h => (by cases h), fun _ => rfl⟩ ls.length (Nat.le_refl _)
    unfold farF
    split
    · rename_i hb
      have := hp.up hb
      exact farF_spec k _ hp.good (by omega)
    · rename_i hb
      have hb' : (fpass ls (F, false) ls.length).2 = false := by simpa using hb
      have e := hp.same hb'
      rw [e]
      exact ⟨hF, fix_of hb'⟩
def farR (n : Int) (ls : List Ln) (s : Int) : Far := farF ls (mu n [(s, 0, 0)] + 1) [(s, 0, 0)]
theorem farR_spec : FG (EL ls) s n (farR n ls s) ∧ Fix ls (farR n ls s) := farF_spec hL hn hs _ _ FG.start (Nat.lt_succ_self _)
omit hL hn hs in
theorem far_least {F : Far} (hF : FG (EL ls) s n F) (hx : Fix ls F) {p : List Int} {c x : Int} (h : Pt (EL ls) s p c x) : ∃ v, fget F x = some v ∧ leF v (c, (p.length : Int) - 1) := by
  induction h with
  | one =>
    obtain ⟨v, hv, hle⟩ := hF.st
    exact ⟨v, hv, by simpa using hle⟩
  | @step p c x y o h he hy ih =>
    obtain ⟨v, hv, hle⟩ := ih
    have hf := hx x y o he
    have hh : fh F x = true := by unfold fh; rw [hv]; rfl
    have hvx : v = (fc F x, fl F x) := by have := fget_of hh; rw [hv] at this; simpa using this
    simp only [fimp, hh, Bool.true_and, Bool.or_eq_false_iff, Bool.not_eq_false'] at hf
    obtain ⟨hy1, hl⟩ := hf
    refine ⟨_, fget_of hy1, leF_trans (leF_of_not hl) ?_⟩
    rw [hvx] at hle
    unfold leF at *
    simp only [List.length_append, List.length_singleton]
    omega
end
theorem Pt.cons {E : Int → Int → Int → Prop} {x y o : Int} {p : List Int} {c t : Int} (h : Pt E x p c t) (he : E y x o) (hy : y ∉ p) : Pt E y (y :: p) (o + c) t := by
  induction h with
  | one =>
    have : Pt E y ([y] ++ [x]) (0 + o) x := .step .one he (by simp at hy ⊢; exact fun e => hy e.symm)
    simpa using this
  | @step p c u v o' h he' hv ih =>
    have hyp : y ∉ p := fun hm => hy (List.mem_append_left _ hm)
    have hyv : v ≠ y := fun e => hy (by rw [e]; simp)
    have := Pt.step (ih hyp) he' (y := v) (by simp [hv, hyv])
    rw [← Int.add_assoc]
    exact this
theorem Pt.rev {E : Int → Int → Int → Prop} (hS : ∀ x y o, E x y o → E y x o) {s : Int} {p : List Int} {c t : Int} (h : Pt E s p c t) : Pt E t p.reverse c s := by
  induction h with
  | one => exact .one
  | @step p c x y o h he hy ih =>
    rw [List.reverse_append, List.reverse_singleton, List.singleton_append, Int.add_comm]
    exact Pt.cons ih (hS _ _ _ he) (by simpa using hy)
theorem Pt.head {E : Int → Int → Int → Prop} {s : Int} {p : List Int} {c t : Int} (h : Pt E s p c t) : (p = [s] ∧ c = 0 ∧ t = s) ∨ ∃ y o c' q, p = s :: q ∧ E s y o ∧ c = o + c' ∧ Pt E y q c' t ∧ s ∉ q := by
  induction h with
  | one => exact .inl ⟨rfl, rfl, rfl⟩
  | @step p c x y o h he hy ih =>
    rcases ih with ⟨rfl, rfl, rfl⟩ | ⟨y1, o1, c1, q, rfl, he1, rfl, hq, hsq⟩
    · exact .inr ⟨y, o, 0, [y], rfl, he, by omega, .one, by simp at hy ⊢; exact fun e => hy e.symm⟩
    · simp only [List.mem_cons, not_or] at hy
      refine .inr ⟨y1, o1, c1 + o, q ++ [y], by simp, he1, by omega, .step hq he hy.2, ?_⟩
      simp only [List.mem_append, List.mem_singleton, not_or]
      exact ⟨hsq, fun e => hy.1 e.symm⟩
end Go.Proofs.Ytglfcaioapdiaaa.Bk

-- The way along the distances, in plain terms: it is the best route.
namespace Go.Proofs.Ytglfcaioapdiaaa.Bk
open Go
set_option linter.unusedSimpArgs false
set_option linter.unusedVariables false
def gok (F : Far) (x : Int) (l : Ln) : Bool := othB x l && (fc F (othV x l) + l.o == fc F x && fl F (othV x l) + 1 == fl F x)
def gst (F : Far) (x : Int) (b : Int) (l : Ln) : Int := if gok F x l then min b (othV x l) else b
def gmin (F : Far) (n x : Int) (ls : List Ln) (i : Nat) : Int := (ls.take i).foldl (gst F x) n
theorem gmin_succ {F : Far} {n x : Int} {ls : List Ln} {i : Nat} (h : i < ls.length) : gmin F n x ls (i + 1) = gst F x (gmin F n x ls i) ls[i] := by
  rw [gmin, List.take_succ_eq_append_getElem h, List.foldl_append]; rfl
theorem gfold_le (F : Far) (x : Int) : ∀ (ls : List Ln) (b : Int), ls.foldl (gst F x) b ≤ b ∧ ∀ l ∈ ls, gok F x l = true → ls.foldl (gst F x) b ≤ othV x l
  | [], b => ⟨Int.le_refl _, by simp⟩
  | l :: ls, b => by
    obtain ⟨h1, h2⟩ := gfold_le F x ls (gst F x b l)
    have h3 : gst F x b l ≤ b := by unfold gst; split <;> omega
    refine ⟨by simp only [List.foldl_cons]; omega, fun z hz hk => ?_⟩
    simp only [List.foldl_cons]
    rcases List.mem_cons.1 hz with e | hz
    · subst e
      have : gst F x b z ≤ othV x z := by unfold gst; rw [hk]; simp only [if_true]; omega
      omega
    · exact h2 z hz hk
theorem gfold_in (F : Far) (x : Int) : ∀ (ls : List Ln) (b : Int), ls.foldl (gst F x) b = b ∨ ∃ l ∈ ls, gok F x l = true ∧ ls.foldl (gst F x) b = othV x l
  | [], b => .inl rfl
  | l :: ls, b => by
    simp only [List.foldl_cons]
    rcases gfold_in F x ls (gst F x b l) with h | ⟨z, hz, hk, e⟩
    · rw [h]
      unfold gst
      split
      · rename_i hk
        by_cases hb : b ≤ othV x l
        · exact .inl (by omega)
        · exact .inr ⟨l, List.mem_cons_self, hk, by omega⟩
      · exact .inl rfl
    · exact .inr ⟨z, List.mem_cons_of_mem _ hz, hk, e⟩
theorem EL.oth {ls : List Ln} {x : Int} {l : Ln} (hl : l ∈ ls) (h : othB x l = true) : EL ls x (othV x l) l.o := by
  simp only [othB, Bool.or_eq_true, beq_iff_eq] at h
  refine ⟨l, hl, ?_, rfl⟩
  unfold othV
  grind
theorem oth_of {ls : List Ln} {x y o : Int} (h : EL ls x y o) : ∃ l ∈ ls, othB x l = true ∧ othV x l = y ∧ l.o = o := by
  obtain ⟨l, hl, hor, e⟩ := h
  refine ⟨l, hl, ?_, ?_, e.symm⟩
  · unfold othB; grind
  · unfold othV; grind
section
variable {n to : Int} {ls : List Ln} {F : Far}
structure FW (n to : Int) (ls : List Ln) (F : Far) : Prop where
  ok : LnsOk n ls
  n12 : n ≤ 12
  rt : 0 ≤ to ∧ to < n
  good : FG (EL ls) to n F
  fix : Fix ls F
theorem FW.of (hL : LnsOk n ls) (hn : n ≤ 12) (ht : 0 ≤ to ∧ to < n) : FW n to ls (farR n ls to) := ⟨hL, hn, ht, (farR_spec hL hn ht).1, (farR_spec hL hn ht).2⟩
variable (h : FW n to ls F)
include h
theorem FW.bd {x : Int} (hx : fh F x = true) : 0 ≤ fc F x ∧ fc F x ≤ 12000000 ∧ 0 ≤ fl F x ∧ fl F x ≤ 11 ∧ 0 ≤ x ∧ x < n :=
  FG.bd (fun _ _ _ => EL.ok h.ok) h.rt (fun _ _ _ => EL.le h.ok) h.n12 h.good (fget_of hx)
theorem FW.bc (x : Int) : 0 ≤ fc F x ∧ fc F x ≤ 12000000 ∧ 0 ≤ fl F x ∧ fl F x ≤ 11 :=
  FG.bc (fun _ _ _ => EL.ok h.ok) h.rt (fun _ _ _ => EL.le h.ok) h.n12 h.good x
theorem FW.at0 : fh F to = true ∧ fc F to = 0 ∧ fl F to = 0 := by
  obtain ⟨v, hv, hle⟩ := h.good.st
  have hh : fh F to = true := by unfold fh; rw [hv]; rfl
  have hb := h.bd hh
  have e : v = (fc F to, fl F to) := by have := fget_of hh; rw [hv] at this; simpa using this
  rw [e] at hle
  unfold leF at hle
  simp only at hle
  exact ⟨hh, by omega, by omega⟩
theorem FW.zero {x : Int} (hx : fh F x = true) (h0 : fl F x = 0) : x = to := by
  obtain ⟨p, hp, hl, _⟩ := h.good.pth x _ _ (fget_of hx)
  rcases hp.head with ⟨_, _, e⟩ | ⟨y, o, c', q, e, _, _, hq, _⟩
  · exact e
  · have := hq.ne
    have h1 : q.length ≠ 0 := fun e => this (List.length_eq_zero_iff.1 e)
    rw [e] at hl
    simp only [List.length_cons] at hl
    omega
theorem FW.ne {x : Int} (hx : fh F x = true) (h0 : 0 < fl F x) : x ≠ to := fun e => by rw [e] at h0; have := h.at0.2.2; omega
theorem FW.cand {x : Int} (hx : fh F x = true) (h0 : 0 < fl F x) : ∃ l ∈ ls, gok F x l = true := by
  obtain ⟨p, hp, hl, _⟩ := h.good.pth x _ _ (fget_of hx)
  generalize hcx : fc F x = cx at hp
  cases hp with
  | one => simp at hl; omega
  | @step p c z _ o hp he hy =>
    obtain ⟨v, hv, hle⟩ := far_least h.good h.fix hp
    have hz : fh F z = true := by unfold fh; rw [hv]; rfl
    have ev : v = (fc F z, fl F z) := by have := fget_of hz; rw [hv] at this; simpa using this
    have hf := h.fix z x o he
    simp only [fimp, hz, hx, Bool.true_and, Bool.not_true, Bool.false_or] at hf
    have hle2 := leF_of_not hf
    obtain ⟨l, hl', g1, g2, g3⟩ := oth_of he.symm
    refine ⟨l, hl', ?_⟩
    simp only [List.length_append, List.length_singleton] at hl
    rw [ev] at hle
    unfold leF at hle hle2
    simp only at hle hle2
    simp only [gok, g1, g2, g3, Bool.true_and, Bool.and_eq_true, beq_iff_eq]
    omega
theorem FW.next {x : Int} (hx : fh F x = true) (h0 : 0 < fl F x) : ∃ l ∈ ls, gok F x l = true ∧ gmin F n x ls ls.length = othV x l ∧ (∀ l' ∈ ls, gok F x l' = true → gmin F n x ls ls.length ≤ othV x l') := by
  obtain ⟨l, hl, hk⟩ := h.cand hx h0
  obtain ⟨h1, h2⟩ := gfold_le F x ls n
  have e : gmin F n x ls ls.length = ls.foldl (gst F x) n := by rw [gmin, List.take_length]
  rw [e]
  rcases gfold_in F x ls n with h3 | ⟨l', hl', hk', e'⟩
  · have := h2 l hl hk
    have h4 := (EL.ok h.ok (EL.oth hl (by simp only [gok, Bool.and_eq_true] at hk; exact hk.1))).2.2.2
    omega
  · exact ⟨l', hl', hk', e', h2⟩
theorem FW.step {x : Int} (hx : fh F x = true) {l : Ln} (hl : l ∈ ls) (hk : gok F x l = true) : EL ls x (othV x l) l.o ∧ fh F (othV x l) = true ∧ fc F (othV x l) + l.o = fc F x ∧ fl F (othV x l) + 1 = fl F x := by
  simp only [gok, Bool.and_eq_true, beq_iff_eq] at hk
  have he := EL.oth hl hk.1
  refine ⟨he, ?_, hk.2.1, hk.2.2⟩
  have hf := h.fix _ _ _ he
  simp only [fimp, hx, Bool.true_and, Bool.or_eq_false_iff, Bool.not_eq_false'] at hf
  exact hf.1
end
def gat (F : Far) (n : Int) (ls : List Ln) (frm : Int) : Nat → Int
  | 0 => frm
  | k + 1 => gmin F n (gat F n ls frm k) ls ls.length
def rlist (F : Far) (n : Int) (ls : List Ln) (frm : Int) (k : Nat) : List Int := (List.range (k + 1)).map (gat F n ls frm)
theorem rlist_succ (F : Far) (n : Int) (ls : List Ln) (frm : Int) (k : Nat) : rlist F n ls frm (k + 1) = rlist F n ls frm k ++ [gat F n ls frm (k + 1)] := by
  simp [rlist, List.range_succ]
theorem rlist_len (F : Far) (n : Int) (ls : List Ln) (frm : Int) (k : Nat) : (rlist F n ls frm k).length = k + 1 := by simp [rlist]
theorem rlist_cons (F : Far) (n : Int) (ls : List Ln) (frm : Int) (k : Nat) : rlist F n ls frm (k + 1) = frm :: rlist F n ls (gat F n ls frm 1) k := by
  have : ∀ j, gat F n ls frm (j + 1) = gat F n ls (gat F n ls frm 1) j := fun j => by
    induction j with
    | zero => rfl
    | succ j ih => rw [gat, ih]; rfl
  unfold rlist
  rw [List.range_succ_eq_map, List.map_cons, List.map_map]
  congr 1
  refine List.map_congr_left fun j _ => ?_
  simp only [Function.comp, Nat.succ_eq_add_one]
  exact this j
section
variable {n to : Int} {ls : List Ln} {F : Far} (h : FW n to ls F)
include h
theorem FW.at {frm : Int} (hf : fh F frm = true) : ∀ k : Nat, (k : Int) ≤ fl F frm → fh F (gat F n ls frm k) = true ∧ fl F (gat F n ls frm k) = fl F frm - k
  | 0, _ => ⟨hf, by simp [gat]⟩
  | k + 1, hk => by
    obtain ⟨h1, h2⟩ := FW.at hf k (by omega)
    obtain ⟨l, hl, hg, e, _⟩ := h.next h1 (by omega)
    obtain ⟨_, s2, _, s4⟩ := h.step h1 hl hg
    rw [gat, e]
    exact ⟨s2, by omega⟩
theorem FW.way : ∀ (k : Nat) {frm : Int}, fh F frm = true → fl F frm = k → Pt (EL ls) frm (rlist F n ls frm k) (fc F frm) to ∧ ∀ y ∈ rlist F n ls frm k, fh F y = true ∧ fl F y ≤ k
  | 0, frm, hf, h0 => by
    have e := h.zero hf (by omega)
    subst e
    rw [h.at0.2.1]
    refine ⟨.one, fun y hy => ?_⟩
    simp [rlist, gat] at hy
    subst hy
    exact ⟨hf, by omega⟩
  | k + 1, frm, hf, h0 => by
    obtain ⟨l, hl, hg, e, _⟩ := h.next hf (by omega)
    obtain ⟨s1, s2, s3, s4⟩ := h.step hf hl hg
    have e1 : gat F n ls frm 1 = othV frm l := e
    obtain ⟨g1, g2⟩ := FW.way k s2 (by omega)
    rw [rlist_cons, e1]
    refine ⟨?_, fun y hy => ?_⟩
    · have := Pt.cons g1 s1 (fun hm => by have := (g2 frm hm).2; omega)
      rw [show fc F frm = l.o + fc F (othV frm l) by omega]
      exact this
    · rcases List.mem_cons.1 hy with rfl | hy
      · exact ⟨hf, by omega⟩
      · exact ⟨(g2 y hy).1, by have := (g2 y hy).2; omega⟩
theorem FW.first : ∀ (k : Nat) {frm : Int} {p : List Int} {c : Int}, fh F frm = true → fl F frm = k → Pt (EL ls) frm p c to → c = fc F frm → p.length = k + 1 → lessL p (rlist F n ls frm k) = false
  | 0, frm, p, c, hf, h0, hp, hc, hl => by
    rcases hp.head with ⟨e, _, _⟩ | ⟨y, o, c', q, e, _, _, hq, _⟩
    · subst e; simp [rlist, gat, lessL]
    · have h1 : q.length ≠ 0 := fun e => hq.ne (List.length_eq_zero_iff.1 e)
      rw [e] at hl; simp at hl; exact absurd hl (by simpa using h1)
  | k + 1, frm, p, c, hf, h0, hp, hc, hl => by
    rcases hp.head with ⟨e, _, _⟩ | ⟨y, o, c', q, e, he, ec, hq, _⟩
    · rw [e] at hl; simp at hl
    · subst e ec
      simp only [List.length_cons, Nat.add_right_cancel_iff] at hl
      obtain ⟨v, hv, hle⟩ := far_least h.good h.fix (hq.rev fun x y o h => h.symm)
      have hy : fh F y = true := by unfold fh; rw [hv]; rfl
      have ev : v = (fc F y, fl F y) := by have := fget_of hy; rw [hv] at this; simpa using this
      have hfx := h.fix y frm o he.symm
      simp only [fimp, hy, hf, Bool.true_and, Bool.not_true, Bool.false_or] at hfx
      have hle2 := leF_of_not hfx
      rw [ev] at hle
      unfold leF at hle hle2
      simp only [List.length_reverse] at hle hle2
      have c1 : fc F y = c' := by omega
      have c2 : fl F y = k := by omega
      obtain ⟨l, hl', g1, g2, g3⟩ := oth_of he
      have hg : gok F frm l = true := by
        simp only [gok, g1, g2, g3, Bool.true_and, Bool.and_eq_true, beq_iff_eq]; omega
      obtain ⟨l1, hl1, hk1, e1, hmin⟩ := h.next hf (by omega)
      have hm := hmin l hl' hg
      rw [g2] at hm
      have e2 : gat F n ls frm 1 = gmin F n frm ls ls.length := rfl
      rw [rlist_cons, lessL, if_pos rfl, e2]
      -- the first of the two tails
      have hd : ∀ z k, ∃ t, rlist F n ls z k = z :: t := fun z k => by
        cases k with
        | zero => exact ⟨[], rfl⟩
        | succ k => exact ⟨_, rlist_cons F n ls z k⟩
      by_cases hlt : gmin F n frm ls ls.length = y
      · rw [hlt]
        exact FW.first k hy (by omega) hq (by omega) hl
      · obtain ⟨t, ht⟩ := hd (gmin F n frm ls ls.length) k
        rw [ht]
        rcases hq.head with ⟨eq, _, _⟩ | ⟨_, _, _, q', eq, _, _, _, _⟩
        · subst eq
          rw [lessL, if_neg (fun e => hlt e.symm)]
          simp only [decide_eq_false_iff_not]; omega
        · subst eq
          rw [lessL, if_neg (fun e => hlt e.symm)]
          simp only [decide_eq_false_iff_not]; omega
end
def goR (n : Int) (ls : List Ln) (frm to : Int) : Option (List Int) := if fh (farR n ls to) frm then some (rlist (farR n ls to) n ls frm (fl (farR n ls to) frm).toNat) else none
theorem goR_eq {n frm to : Int} {ls ls' : List Ln} {may : List Bool} {counts : Bool} (hL : LnsOk n ls) (hL' : LnsOk n ls') (hn : n ≤ 12) (hf : 0 ≤ frm ∧ frm < n) (ht : 0 ≤ to ∧ to < n) (hE : ∀ x y o, EL ls x y o ↔ Lk ls' may counts x y o) :
    goR n ls frm to = if (routeW n ls' may counts frm to).f then some (routeW n ls' may counts frm to).p else none := by
  have hEE : EL ls = Lk ls' may counts := by funext x y o; exact propext (hE x y o)
  have hFW := FW.of (to := to) hL hn ht
  obtain ⟨r1, r2⟩ := route_spec (E := EL ls) (s := frm) (n := n) (fun _ _ _ => EL.ok hL) hf hEE ht
  unfold goR
  cases hh : fh (farR n ls to) frm with
  | false =>
    have : (routeW n ls' may counts frm to).f = false := by
      cases hr : (routeW n ls' may counts frm to).f with
      | false => rfl
      | true =>
        obtain ⟨v, hv, _⟩ := far_least hFW.good hFW.fix ((r1 hr).rev fun x y o h => h.symm)
        unfold fh at hh; rw [hv] at hh; cases hh
    rw [this]; rfl
  | true =>
    have hb := hFW.bd hh
    obtain ⟨w1, w2⟩ := hFW.way (fl (farR n ls to) frm).toNat hh (by omega)
    obtain ⟨r3, r4⟩ := r2 _ _ w1
    rw [r3]
    simp only [if_true, Option.some.injEq]
    have hR := r1 r3
    obtain ⟨v, hv, hle⟩ := far_least hFW.good hFW.fix (hR.rev fun x y o h => h.symm)
    have ev : v = (fc (farR n ls to) frm, fl (farR n ls to) frm) := by have := fget_of hh; rw [hv] at this; simpa using this
    rw [ev] at hle
    have hlen := rlist_len (farR n ls to) n ls frm (fl (farR n ls to) frm).toNat
    generalize hG : rlist (farR n ls to) n ls frm (fl (farR n ls to) frm).toNat = G at *
    generalize routeW n ls' may counts frm to = R at *
    -- same cost and length
    have same : R.c = fc (farR n ls to) frm ∧ R.p.length = G.length := by
      unfold leF at hle
      unfold leK ltK at r4
      simp only [List.length_reverse] at hle r4
      omega
    have hfirst := hFW.first (fl (farR n ls to) frm).toNat hh (by omega) hR same.1 (by omega)
    rw [hG] at hfirst
    refine (lessL_tri R.p G same.2 hfirst ?_).symm
    cases hc : lessL G R.p with
    | false => rfl
    | true =>
      refine absurd ?_ r4
      unfold ltK
      exact .inr ⟨same.1.symm, .inr ⟨same.2.symm, hc⟩⟩
end Go.Proofs.Ytglfcaioapdiaaa.Bk

namespace Go.Proofs.Ytglfcaioapdiaaa.Aw
open Go Go.RowKit
set_option linter.unusedVariables false
set_option linter.unusedSimpArgs false
mutual
def noOm : AV → Bool
  | .om _ _ => false
  | .agg cs => noOmL cs
  | .tup cs => noOmL cs
  | .fn _ cs => noOmL cs
  | _ => true
def noOmL : List AV → Bool
  | [] => true
  | x :: xs => noOm x && noOmL xs
end
theorem noOmL_get : ∀ {l : List AV} {j : Nat} {v : AV}, noOmL l = true → l[j]? = some v → noOm v = true
  | [], j, v, _, h => by simp at h
  | x :: l, 0, v, h, h2 => by simp [noOmL] at h; simp at h2; subst h2; exact h.1
  | x :: l, j + 1, v, h, h2 => by simp [noOmL] at h; simp at h2; exact noOmL_get h.2 h2
section
variable {K : Nat → Prop} {w w' : World} {m : Nat → Loc} {B : Nat} {es0 : Array MapEntry} {c0 : Nat}
theorem cell_thaw (hB : w.heap[B]? = some (.map es0 c0)) (hne : ∀ k, k ≠ B → w'.heap[k]? = w.heap[k]?) {b o : Nat} {s : Option (Nat × Nat)} {x : Value} (h : w.cell? ⟨b, o, none⟩ = some x) : w'.cell? ⟨b, o, none⟩ = some x := by
  by_cases e : b = B
  · subst e; simp [World.cell?, hB] at h
  · rw [World.cell?_of_block (w := w) (hne b e)]; exact h
theorem VR.thaw (hB : w.heap[B]? = some (.map es0 c0)) (hne : ∀ k, k ≠ B → w'.heap[k]? = w.heap[k]?) {S : Nat → Prop} {av : AV} {x : Value} (h : VR K w m S av x) : (noOm av = true ∨ ∀ i, ¬ S i) → VR K w' m S av x := by
  induction h with
  | v S x => intro _; exact .v _ _
  | dsl0 S size a c => intro _; exact .dsl0 _ _ _ _
  | dsl S size rows n b o c xs hn hc hk hl hx hv ih =>
    intro _
    exact .dsl _ _ _ n b o c xs hn hc hk hl (fun r row j cv h1 h2 => ⟨cell_thaw (s := none) hB hne (hx r row j cv h1 h2).1, (hx r row j cv h1 h2).2⟩) (fun r row j cv h1 h2 => ih r row j cv h1 h2 (.inr fun _ h => h))
  | dptr S cells b o xs hk hx hv ih =>
    intro _
    exact .dptr _ _ b o xs hk (fun j cv h1 => ⟨cell_thaw (s := none) hB hne (hx j cv h1).1, (hx j cv h1).2⟩) (fun j cv h1 => ih j cv h1 (.inr fun _ h => h))
  | om S id D es c b hs hp hq hb hk ho hD =>
    intro h
    rcases h with h | h
    · simp [noOm] at h
    · exact absurd hs (h id)
  | emp S a => intro _; exact .emp _ _
  | ptr S id row col o hs ho => intro _; exact .ptr _ _ _ _ _ hs ho
  | sl S id row len o c hs hp ho hc => intro _; exact .sl _ _ _ _ _ _ hs hp ho hc
  | sl0 S id row a hs => intro _; exact .sl0 _ _ _ _ hs
  | sx S id row len cap o c hs hp ho hcap hc => intro _; exact .sx _ _ _ _ _ _ _ hs hp ho hcap hc
  | agg S cs xs hl hv ih =>
    intro h
    exact .agg _ _ _ hl fun j cv y h1 h2 => ih j cv y h1 h2 (h.imp (fun h => by simp only [noOm] at h; exact noOmL_get h h1) id)
  | tup S cs xs hl hv ih =>
    intro h
    exact .tup _ _ _ hl fun j cv y h1 h2 => ih j cv y h1 h2 (h.imp (fun h => by simp only [noOm] at h; exact noOmL_get h h1) id)
  | fn S f cs xs hl hv ih =>
    intro h
    exact .fn _ _ _ _ hl fun j cv y h1 h2 => ih j cv y h1 h2 (h.imp (fun h => by simp only [noOm] at h; exact noOmL_get h h1) id)
end
def noOmB (b : Blk) : Bool := b.pl || b.rows.all noOmL
def noOmH (H : Hp) : Bool := H.all fun p => noOmB p.2
def omU (id : Nat) (D : List (Value × Value)) : AV → Option AV
  | .om i _ => if Nat.beq i id then some (.om id D) else none
  | .v x => some (.v x)
  | .dsl s r => some (.dsl s r)
  | .dptr c => some (.dptr c)
  | .ptr i r c => some (.ptr i r c)
  | .sl i r l => some (.sl i r l)
  | .sx i r l c => some (.sx i r l c)
  | .emp => some .emp
  | .agg cs => if noOmL cs then some (.agg cs) else none
  | .tup cs => if noOmL cs then some (.tup cs) else none
  | .fn f cs => if noOmL cs then some (.fn f cs) else none
theorem omU_spec {id : Nat} {D : List (Value × Value)} {v v' : AV} (h : omU id D v = some v') : (v' = v ∧ noOm v = true) ∨ ∃ D0, v = .om id D0 ∧ v' = .om id D := by
  cases v <;> simp only [omU] at h
  case om i D0 =>
    split at h
    · rename_i he
      simp only [Option.some.injEq] at h
      exact .inr ⟨D0, by rw [Nat.eq_of_beq_eq_true he], h.symm⟩
    · cases h
  case agg cs => split at h <;> simp_all [noOm]
  case tup cs => split at h <;> simp_all [noOm]
  case fn f cs => split at h <;> simp_all [noOm]
  all_goals (simp only [Option.some.injEq] at h; exact .inl ⟨h.symm, rfl⟩)
def omT (id : Nat) (D : List (Value × Value)) : Tp → Option Tp
  | [] => some []
  | (t, v) :: T => match omU id D v, omT id D T with
    | some v', some T' => some ((t, v') :: T')
    | _, _ => none
theorem omT_spec {id : Nat} {D : List (Value × Value)} : ∀ {T T' : Tp}, omT id D T = some T' → ∀ {t : Nat} {v' : AV}, look T' t = some v' → ∃ v, look T t = some v ∧ omU id D v = some v'
  | [], T', h, t, v', hl => by simp [omT] at h; subst h; simp [look_nil] at hl
  | (u, x) :: T, T', h, t, v', hl => by
    simp only [omT] at h
    split at h
    · rename_i x' T1 h1 h2
      simp only [Option.some.injEq] at h
      subst h
      rw [look_cons] at hl ⊢
      split at hl
      · rename_i e; subst e; simp only [Option.some.injEq] at hl; subst hl; exact ⟨x, by rw [if_pos rfl], h1⟩
      · rename_i e; rw [if_neg e]; exact omT_spec h2 hl
    · cases h
def mget (D : List (Value × Value)) (k : Int) : Option Value := match D with
  | [] => none
  | (x, v) :: D => match x with
    | .int .i64 j => if k == j then some v else mget D k
    | _ => none
def mset (D : List (Value × Value)) (k : Int) (v : Value) : List (Value × Value) := match D with
  | [] => [(.int .i64 k, v)]
  | (x, u) :: D => match x with
    | .int .i64 j => if k == j then (.int .i64 k, v) :: D else (x, u) :: mset D k v
    | _ => []
def keysI (D : List (Value × Value)) : Bool := D.all fun p => match p.1 with
  | .int .i64 _ => true
  | _ => false
def mentry (e : MapEntry) : Value × Value := (e.key, e.val)
theorem findNow_mget : ∀ (l : List MapEntry) (i : Nat) (k : Int), keysI (l.map mentry) = true →
    (mget (l.map mentry) k = none ∧ mset (l.map mentry) k = (fun v => l.map mentry ++ [(.int .i64 k, v)]) ∧ Instr.findNow (.int .i64) (.int .i64 k) l i = some none) ∨
    (∃ v j, mget (l.map mentry) k = some v ∧ Instr.findNow (.int .i64) (.int .i64 k) l i = some (some (i + j, v)) ∧ (∃ e, l[j]? = some e ∧ e.key = .int .i64 k) ∧ mset (l.map mentry) k = (fun u => (l.map mentry).set j (.int .i64 k, u)))
  | [], i, k, _ => .inl ⟨rfl, by funext v; rfl, rfl⟩
  | e :: l, i, k, h => by
    obtain ⟨ek, ev, eb⟩ := e
    simp only [keysI, List.map_cons, List.all_cons, Bool.and_eq_true, mentry] at h
    obtain ⟨h1, h2⟩ := h
    have hk : ∃ j, ek = .int .i64 j := by
      cases ek <;> first | (rename_i q j; cases q <;> first | exact ⟨_, rfl⟩ | (simp at h1; done)) | (simp at h1; done)
    obtain ⟨j, rfl⟩ := hk
    clear h1
    by_cases hkj : k = j
    · subst hkj
      refine .inr ⟨ev, 0, by simp [mget, mentry], by simp [Instr.findNow, Instr.sameNow], ⟨_, rfl, rfl⟩, ?_⟩
      funext u
      simp [mset, mentry]
    · have hb : (k == j) = false := by simpa using hkj
      have hs : Instr.sameNow (.int .i64) (.int .i64 k) (.int .i64 j) = some false := by simp [Instr.sameNow, hkj]
      rcases findNow_mget l (i + 1) k h2 with ⟨g1, g2, g3⟩ | ⟨v, q, g1, g2, g3, g4⟩
      · refine .inl ⟨by simp [mget, mentry, hb]; exact g1, ?_, by simp [Instr.findNow, hs, g3]⟩
        funext u
        have := congrFun g2 u
        simp only [mset, mentry, List.map_cons, hb] at this ⊢
        simp [this]
      · refine .inr ⟨v, q + 1, by simp [mget, mentry, hb]; exact g1, by simp [Instr.findNow, hs, g2]; omega, by simpa using g3, ?_⟩
        funext u
        have := congrFun g4 u
        simp only [mset, mentry, List.map_cons, hb] at this ⊢
        simp [this]
section
variable {P : Program} {Old : Nat → Prop} {wi : WI Old} {K : Nat → Prop} {m : Nat → Loc} {S : Nat → Prop} {H : Hp} {w : World} {N n : Nat} {T : Tp} {o : Oper} {a : Act}
theorem Rel.newMap (hr : Rel Old wi K m S H w) {n : Nat} (hn : ¬ S n) : Rel Old wi (fun k => K k ∨ k = w.heap.size) (updL m n ⟨w.heap.size, 1, 0, true⟩) (addS S n (n + 1)) ((n, ⟨0, 1000003, true, []⟩) :: H) (w.alloc (.map #[] 0)) := by
  have hm : ∀ i, S i → updL m n ⟨w.heap.size, 1, 0, true⟩ i = m i := fun i hi => updL_ne _ _ (fun e => hn (e ▸ hi))
  have hk : ∀ k, k < w.heap.size → (w.alloc (.map #[] 0)).heap[k]? = w.heap[k]? := fun k hk => Below.heap_alloc _ _ _ hk
  have hsize : (w.alloc (.map #[] 0)).heap.size = w.heap.size + 1 := by simp
  have part : ∀ i bi, look ((n, (⟨0, 1000003, true, []⟩ : Blk)) :: H) i = some bi → (i = n ∧ bi = ⟨0, 1000003, true, []⟩) ∨ (i ≠ n ∧ look H i = some bi) := fun i bi h => by
    rw [look_cons] at h
    split at h
    · rename_i he; simp only [Option.some.injEq] at h; exact .inl ⟨he.symm, h.symm⟩
    · rename_i he; exact .inr ⟨fun e => he e.symm, h⟩
  refine { os := hr.os, tape := hr.tape, output := hr.output, size := by rw [hsize]; have := hr.size; omega, old := fun k ho => by rw [hk k (hr.olt k ho)]; exact hr.old k ho, olt := fun k ho => by rw [hsize]; have := hr.olt k ho; omega, oown := ?_, om := ?_, kb := fun k hkk => by rw [hsize]; rcases hkk with h | h; (have := hr.kb k h; omega); omega, pin := fun i l hp => (hm i (hr.pinS i l hp)).trans (hr.pin i l hp), pinS := fun i l hp => .inl (hr.pinS i l hp), inS := ?_, own := ?_, inj := ?_ }
  · intro i bi h
    rcases part i bi h with ⟨rfl, rfl⟩ | ⟨hne, h2⟩
    · rw [updL_same]; intro h; cases h
    · rw [updL_ne _ _ hne]; exact hr.oown i bi h2
  · intro i bi h
    rcases part i bi h with ⟨rfl, rfl⟩ | ⟨hne, h2⟩
    · rw [updL_same]; exact fun _ _ => ⟨rfl, .inr rfl, fun ho => Nat.lt_irrefl _ (hr.olt _ ho)⟩
    · rw [updL_ne _ _ hne]; exact fun hp hq => ⟨(hr.om i bi h2 hp hq).1, .inl (hr.om i bi h2 hp hq).2.1, (hr.om i bi h2 hp hq).2.2⟩
  · intro i bi h
    rcases part i bi h with ⟨rfl, rfl⟩ | ⟨_, h2⟩
    · exact .inr ⟨Nat.le_refl _, Nat.lt_succ_self _⟩
    · exact .inl (hr.inS i bi h2)
  · intro i bi h
    rcases part i bi h with ⟨rfl, rfl⟩ | ⟨_, h2⟩
    · exact .inl ⟨by rw [updL_same], rfl⟩
    · exact (hr.own i bi h2).mono2 (fun _ h => .inl h) (fun hp hk => by
        rcases hk with hk | hk
        · exact hk
        · have := ((hr.own i bi h2).br hp).lt_size; omega) (fun k hkk => hk k (hr.kb k hkk)) (fun _ hb => hk _ hb.lt_size) (fun i hi => .inl hi) hm (hr.inS i bi h2)
  · intro i j bi bj h1 h2 hne
    rcases part i bi h1 with ⟨rfl, rfl⟩ | ⟨hi, hhi⟩ <;> rcases part j bj h2 with ⟨rfl, rfl⟩ | ⟨hj, hhj⟩
    · exact absurd rfl hne
    · rw [updL_same]; intro h; cases h
    · rw [updL_same]; intro _ h; cases h
    · rw [updL_ne _ _ hi, updL_ne _ _ hj]; exact hr.inj i j bi bj hhi hhj hne
theorem s_makeMap {t : TypeId} (ho : o.op = .makeMap t none) : Step P o N T H n (.om n []) ((n, ⟨0, 1000003, true, []⟩) :: H) (n + 1) true := by
  refine ⟨Nat.le_succ _, fun Old wi K m S a w hS hr ht next Q hn => ?_⟩
  have hrun : (execOp a.eval o).run P w = .ok (.value (.map (some w.heap.size))) (w.alloc (.map #[] 0)) := by
    simp only [execOp, ho]; rfl
  unfold Oper.wp
  rw [hrun]
  have hns : ¬ S n := hS n (Nat.le_refl _) (Nat.lt_succ_self _)
  refine hn _ _ (updL m n ⟨w.heap.size, 1, 0, true⟩) (fun k => K k ∨ k = w.heap.size) ⟨fun i hi => updL_ne _ _ (fun e => hi (by omega)), ⟨fun _ h => .inl h, fun k hk ho => ?_⟩, hr.newMap hns, ?_, fun k hk => Below.heap_alloc _ _ _ (hr.kb k hk), fun _ => ⟨(Below.refl _ w).alloc (Nat.le_refl _) _, fun i hi hi' hp => ?_, fun k hk hlt => ?_⟩⟩
  · rcases hk with h | h
    · exact h
    · have := hr.olt k ho; omega
  · exact .om _ n [] #[] 0 _ (.inr ⟨Nat.le_refl _, Nat.lt_succ_self _⟩) (by rw [updL_same]) (by rw [updL_same]) (by rw [updL_same]) (.inr rfl) (heap_alloc_new w _) rfl
  · have : i = n := by omega
    subst this
    rw [updL_same] at hp
    cases hp
  · rcases hk with h | h
    · exact h
    · omega
theorem s_lookup {t kt et : TypeId} {x y : Operand} {id : Nat} {D : List (Value × Value)} {k : Int} {z r : Value} {ok b : Bool} (ho : o.op = .lookup t x y ok) (hx : evalA T x = some (.om id D)) (hy : evalA T y = some (.v (.int .i64 k)))
    (ht : P.underlying t = some (.map kt et)) (hkt : P.underlying kt = some (.int .i64)) (hz : (P.info? et).bind (·.zero) = some z) (hD : keysI D = true) (hb : (mget D k).isSome = b) (hr : (mget D k).getD z = r) :
    Step P o N T H n (.v (if ok then .tuple #[r, .bool b] else r)) H n true := by
  refine Step.still fun Old wi K m S a w hrel htr => ?_
  have hxx := htr.eval hx
  have hyy := htr.eval hy
  generalize hxv : a.eval x = xv at hxx
  generalize hyv : a.eval y = yv at hyy
  cases hyy
  cases hxx with
  | om _ _ _ es c b0 hs hp hq hbb hk hoo hDD =>
    refine ⟨_, ?_, .v _ _⟩
    have hDm : es.toList.map mentry = D := hDD
    rw [← hDm] at hD hb hr
    have hzz : (zeroValue et).run P w = .ok z w := by
      cases hi : P.info? et with
      | none => rw [hi] at hz; cases hz
      | some i =>
        rw [hi] at hz
        simp only [Option.bind_some] at hz
        simp [zeroValue, typeInfo, hi, hz, Result.andThen]
    rcases findNow_mget es.toList 0 k hD with ⟨g1, _, g3⟩ | ⟨v, j, g1, g2, _, _⟩
    · rw [g1] at hb hr
      subst hb hr
      simp only [execOp, ho, hxv, hyv, Instr.lookup, Sem.run_bind, Sem.run_pure, run_underlying ht, Result.andThen, MapKept.run_getObj_map hoo, MapKept.run_checkKey (P := P) (w := w) hkt (k := .int .i64 k) (by trivial), MapKept.run_findKey (P := P) (w := w) hkt g3, hzz]
      cases ok <;> rfl
    · rw [g1] at hb hr
      subst hb hr
      simp only [execOp, ho, hxv, hyv, Instr.lookup, Sem.run_bind, Sem.run_pure, run_underlying ht, Result.andThen, MapKept.run_getObj_map hoo, MapKept.run_checkKey (P := P) (w := w) hkt (k := .int .i64 k) (by trivial), MapKept.run_findKey (P := P) (w := w) hkt g2]
      cases ok <;> rfl
def setO (w : World) (b : Nat) (ob : Obj) : World := { w with heap := w.heap.setIfInBounds b ob }
theorem setO_at {w : World} {b : Nat} {ob ob' : Obj} (h : w.heap[b]? = some ob') : (setO w b ob).heap[b]? = some ob ∧ (∀ k, k ≠ b → (setO w b ob).heap[k]? = w.heap[k]?) ∧ (setO w b ob).heap.size = w.heap.size :=
  ⟨(MapKept.heap_set h).1, (MapKept.heap_set h).2, by simp [setO]⟩
theorem run_mapUpdate {P : Program} {w : World} {t kt et : TypeId} {b c : Nat} {es : Array MapEntry} {k : Int} {v : Value} {D : List (Value × Value)} (ht : P.underlying t = some (.map kt et)) (hkt : P.underlying kt = some (.int .i64))
    (ho : w.heap[b]? = some (.map es c)) (hDD : es.toList.map mentry = D) (hD : keysI D = true) :
    ∃ es' c', (Instr.mapUpdate t (.map (some b)) (.int .i64 k) v).run P w = .ok () (setO w b (.map es' c')) ∧ es'.toList.map mentry = mset D k v := by
  subst hDD
  rcases findNow_mget es.toList 0 k hD with ⟨g1, g2, g3⟩ | ⟨u, j, g1, g2, ⟨e, ge, gk⟩, g4⟩
  · refine ⟨es.push { key := .int .i64 k, val := v, born := c }, c + 1, ?_, ?_⟩
    · simp only [Instr.mapUpdate, Sem.run_bind, Sem.run_pure, run_underlying ht, Result.andThen, MapKept.run_getObj_map ho, MapKept.run_checkKey (P := P) (w := w) hkt (k := .int .i64 k) (by trivial), MapKept.run_findKey (P := P) (w := w) hkt g3, MapKept.run_setObj_map _ ho]
      rfl
    · rw [congrFun g2 v]
      simp [mentry]
  · have hes : es[j]? = some e := by simpa using ge
    refine ⟨es.modify j fun e => { e with key := .int .i64 k, val := v }, c, ?_, ?_⟩
    · simp only [Instr.mapUpdate, Sem.run_bind, Sem.run_pure, run_underlying ht, Result.andThen, MapKept.run_getObj_map ho, MapKept.run_checkKey (P := P) (w := w) hkt (k := .int .i64 k) (by trivial), MapKept.run_findKey (P := P) (w := w) hkt g2, Nat.zero_add, hes, Option.map_some, Option.getD_some, gk]
      have hsb : Instr.sameBits 10000 (.int .i64 k) (.int .i64 k) = true := by simp [Instr.sameBits]
      simp [Instr.keyThatStays, hsb, Result.andThen, MapKept.run_setObj_map _ ho, setO]
    · rw [congrFun g4 v]
      apply List.ext_getElem?
      intro i
      simp only [List.getElem?_map, List.getElem?_set, List.length_map, Array.length_toList]
      have hj : j < es.size := (Array.getElem?_eq_some_iff.1 hes).1
      have hmod : (es.modify j fun e => { e with key := .int .i64 k, val := v })[i]? = if j = i then (es[i]?).map (fun e => { e with key := .int .i64 k, val := v }) else es[i]? := Array.getElem?_modify
      rw [Array.getElem?_toList, hmod]
      by_cases hij : j = i
      · subst hij
        rw [if_pos rfl, if_pos rfl, if_pos hj, hes]
        rfl
      · rw [if_neg hij, if_neg hij, Array.getElem?_toList]
theorem thaw_rel (hr : Rel Old wi K m S H w) (ht : TRel K w m S N T a) {id : Nat} {b : Blk} (hl : look H id = some b) (hH : noOmH H = true) {es es' : Array MapEntry} {c c' : Nat} (hp : (m id).ph = true) (hq : (m id).cap = 1) (ho : w.heap[(m id).blk]? = some (.map es c))
    {D' : List (Value × Value)} (hD : es'.toList.map mentry = D') {T' : Tp} (hT : omT id D' T = some T') :
    Rel Old wi K m S H (setO w (m id).blk (.map es' c')) ∧ TRel K (setO w (m id).blk (.map es' c')) m S N T' a := by
  obtain ⟨s1, s2, s3⟩ := setO_at (ob := .map es' c') ho
  obtain ⟨_, hK, hO⟩ := hr.om id b hl hp hq
  refine ⟨?_, ht.dn, ht.sz, fun t v' hl' => ?_⟩
  · refine { os := hr.os, tape := hr.tape, output := hr.output, size := by rw [s3]; exact hr.size, old := fun k hk => (s2 k (fun e => hO (e ▸ hk))).trans (hr.old k hk), olt := fun k hk => by rw [s3]; exact hr.olt k hk, oown := hr.oown, om := hr.om, kb := fun k hk => by rw [s3]; exact hr.kb k hk, inS := hr.inS, pin := hr.pin, pinS := hr.pinS, own := fun i bi hi => ?_, inj := hr.inj }
    rcases hr.own i bi hi with h | ⟨h1, hb⟩
    · exact .inl h
    · refine .inr ⟨h1, hb.nk, hb.sz, hb.cap, hb.capm, hb.plv, ?_⟩
      obtain ⟨cur, c1, c2, c3⟩ := hb.ex
      have hne : (m i).blk ≠ (m id).blk := fun e => by rw [e, ho] at c1; cases c1
      refine ⟨cur, (s2 _ hne).trans c1, c2, fun r row hrow => ⟨(c3 r row hrow).1, fun j cv hj => ?_⟩⟩
      obtain ⟨x, hx, hone, hv⟩ := (c3 r row hrow).2 j cv hj
      refine ⟨x, hx, hone, hv.thaw ho s2 ?_⟩
      have hnb := look_all hH hi
      simp only [noOmB, Bool.or_eq_true] at hnb
      rcases hnb with hpl | hrows
      · exact .inr fun i hh => by rw [hpl] at hh; cases hh.2
      · exact .inl (noOmL_get (List.all_eq_true.1 hrows row (List.mem_of_getElem? hrow)) hj)
  · obtain ⟨v, hv, hu⟩ := omT_spec hT hl'
    have hvr := ht.tm t v hv
    rcases omU_spec hu with ⟨rfl, hno⟩ | ⟨D0, rfl, rfl⟩
    · exact hvr.thaw ho s2 (.inl hno)
    · generalize a.tmps.getD t undef = x at hvr
      cases hvr with
      | om _ _ _ es1 c1 b1 hs hp1 hq1 hb1 hk1 ho1 hD1 =>
        subst hb1
        exact .om _ _ _ es' c' _ hs hp1 hq1 rfl hk1 s1 hD
end
section
variable {P : Program} {N n : Nat} {all : Array Oper} {l : List Oper} {G : Tp → Hp → Nat → Prop} {T T' : Tp} {H : Hp} {ty : TypeId} {pos : String} {after : Array Edge} {d : Nat}
theorem q_makeMap {t : TypeId} (hd : Nat.blt d N = true) (h : SQ P N all l G ((d, .om n []) :: T) ((n, ⟨0, 1000003, true, []⟩) :: H) (n + 1)) : SQ P N all (⟨some d, .makeMap t none, ty, pos, after, none⟩ :: l) G T H n :=
  sq_step rfl hd (s_makeMap rfl) h
inductive VV : AV → Value → Prop
  | v (x : Value) : VV (.v x) x
  | agg2 (x y : Value) : VV (.agg [.v x, .v y]) (.agg #[x, y])
theorem VV.eq {K : Nat → Prop} {w : World} {m : Nat → Loc} {S : Nat → Prop} {av : AV} {x y : Value} (h : VV av x) (hv : VR K w m S av y) : y = x := by
  cases h with
  | v => cases hv; rfl
  | agg2 a b =>
    cases hv with
    | agg _ _ xs hl hvv =>
      match xs, hl, hvv with
      | [p, q], _, hvv =>
        have h0 := hvv 0 _ p rfl rfl
        have h1 := hvv 1 _ q rfl rfl
        cases h0; cases h1; rfl
theorem sq_mapPut {o : Oper} {t kt et : TypeId} {x y z : Operand} {id : Nat} {b : Blk} {D D' : List (Value × Value)} {k : Int} {av : AV} {v : Value} (ho : o.op = .mapUpdate t x y z ∨ o.op = .insert t x y z) (hg : o.guard = none) (hd : o.dst = none)
    (hx : evalA T x = some (.om id D)) (hy : evalA T y = some (.v (.int .i64 k))) (hz : evalA T z = some av) (hv : VV av v) (hl : look H id = some b)
    (ht : P.underlying t = some (.map kt et)) (hkt : P.underlying kt = some (.int .i64)) (hD : keysI D = true) (hH : noOmH H = true) (he : mset D k v = D') (hT : omT id D' T = some T') (h : SQ P N all l G T' H n) : SQ P N all (o :: l) G T H n := by
  intro Old wi K m a w Q hr htr hq rr
  unfold wpListIn
  rw [if_pos (by simp [Region.wanted, hg])]
  refine ⟨fun _ _ => trivial, ?_⟩
  have hxx := htr.eval hx
  have hyy := htr.eval hy
  have hzz := hv.eq (htr.eval hz)
  generalize hxv : a.eval x = xv at hxx
  generalize hyv : a.eval y = yv at hyy
  cases hyy
  cases hxx with
  | om _ _ _ es c b0 hs hp hqq hbb hk hoo hDD =>
    subst hbb
    obtain ⟨es', c', hrun, hm⟩ := run_mapUpdate (v := v) (k := k) ht hkt hoo hDD hD
    have hrun2 : (execOp a.eval o).run P w = .ok .skip (setO w (m id).blk (.map es' c')) := by
      rcases ho with ho | ho <;> (simp only [execOp, ho, hxv, hyv, hzz, Sem.run_bind, hrun, Result.andThen]; rfl)
    obtain ⟨h1, h2⟩ := thaw_rel hr htr hl hH hp hqq hoo (c' := c') (hm.trans he) hT
    rw [Oper.semAt_eq _ _ _ (by intro c hc; rcases ho with ho | ho <;> (rw [ho] at hc; cases hc)), hrun2, Oper.uponIn_skip]
    have e : a.put o.dst undef = a := by rw [hd]; rfl
    rw [e]
    exact h Old wi K m a _ Q h1 h2 hq rr
theorem q_mapPut {t kt et : TypeId} {x y z : Operand} {id : Nat} {b : Blk} {D D' : List (Value × Value)} {k : Int} {av : AV} {v : Value}
    (hx : evalA T x = some (.om id D)) (hy : evalA T y = some (.v (.int .i64 k))) (hz : evalA T z = some av) (hv : VV av v) (hl : look H id = some b)
    (ht : P.underlying t = some (.map kt et)) (hkt : P.underlying kt = some (.int .i64)) (hD : keysI D = true) (hH : noOmH H = true) (he : mset D k v = D') (hT : omT id D' T = some T') (h : SQ P N all l G T' H n) : SQ P N all (⟨none, .mapUpdate t x y z, ty, pos, after, none⟩ :: l) G T H n :=
  sq_mapPut (.inl rfl) rfl rfl hx hy hz hv hl ht hkt hD hH he hT h
theorem q_mapIns {t kt et : TypeId} {x y z : Operand} {id : Nat} {b : Blk} {D D' : List (Value × Value)} {k : Int} {av : AV} {v : Value}
    (hx : evalA T x = some (.om id D)) (hy : evalA T y = some (.v (.int .i64 k))) (hz : evalA T z = some av) (hv : VV av v) (hl : look H id = some b)
    (ht : P.underlying t = some (.map kt et)) (hkt : P.underlying kt = some (.int .i64)) (hD : keysI D = true) (hH : noOmH H = true) (he : mset D k v = D') (hT : omT id D' T = some T') (h : SQ P N all l G T' H n) : SQ P N all (⟨none, .insert t x y z, ty, pos, after, none⟩ :: l) G T H n :=
  sq_mapPut (.inr rfl) rfl rfl hx hy hz hv hl ht hkt hD hH he hT h
end
theorem VV.val {K : Nat → Prop} {w : World} {m : Nat → Loc} {S : Nat → Prop} {av : AV} {x : Value} (h : VV av x) : VR K w m S av x := by
  cases h with
  | v => exact .v _ _
  | agg2 a b =>
    refine .agg _ _ [a, b] rfl fun j cv y h1 h2 => ?_
    match j with
    | 0 => simp at h1 h2; subst h1 h2; exact .v _ _
    | 1 => simp at h1 h2; subst h1 h2; exact .v _ _
    | j + 2 => simp at h1
theorem Step.vv {P : Program} {o : Oper} {N : Nat} {T : Tp} {H : Hp} {n : Nat} {x : Value} {av : AV} (h : Step P o N T H n (.v x) H n true) (hv : VV av x) : Step P o N T H n av H n true := by
  unfold Step at h ⊢
  refine ⟨h.1, fun Old wi K m S a w hS hr ht next Q hn => h.2 Old wi K m S a w hS hr ht next Q fun r w' m' K' ha => hn r w' m' K' ⟨ha.ag, ha.gk, ha.rel, ?_, ha.kk, ha.fr⟩⟩
  have := ha.vr
  cases this
  exact VV.val hv
theorem Step.vok {P : Program} {o : Oper} {N : Nat} {T : Tp} {H : Hp} {n : Nat} {x : Value} {b : Bool} {av : AV} (h : Step P o N T H n (.v (.tuple #[x, .bool b])) H n true) (hv : VV av x) : Step P o N T H n (.tup [av, .v (.bool b)]) H n true := by
  unfold Step at h ⊢
  refine ⟨h.1, fun Old wi K m S a w hS hr ht next Q hn => h.2 Old wi K m S a w hS hr ht next Q fun r w' m' K' ha => hn r w' m' K' ⟨ha.ag, ha.gk, ha.rel, ?_, ha.kk, ha.fr⟩⟩
  have := ha.vr
  cases this
  refine .tup _ _ [x, .bool b] rfl fun j cv y h1 h2 => ?_
  match j with
  | 0 => simp at h1 h2; subst h1 h2; exact VV.val hv
  | 1 => simp at h1 h2; subst h1 h2; exact .v _ _
  | j + 2 => simp at h1
section
variable {P : Program} {N n : Nat} {all : Array Oper} {l : List Oper} {G : Tp → Hp → Nat → Prop} {T : Tp} {H : Hp} {ty : TypeId} {pos : String} {after : Array Edge} {d : Nat} {o : Oper}
theorem s_buildArr {t : TypeId} {ti : TI} {parts : Array (Nat × Operand)} {ps : List (Nat × AV)} {cs : List AV} {len es : Nat} {ea : Bool} (ho : o.op = .build t parts) (hty : tiOf P t = some ti) (hk : ti.k = .array len es ea)
    (hp : parts.toList.mapM (fun p => (evalA T p.2).map fun v => (p.1, v)) = some ps) (hc : fillA (fun i => some (i * es, es)) (ti.zero.map .v) ps = some cs) : Step P o N T H n (.agg cs) H n true := by
  obtain ⟨i, d, z, hi, hd, hzz, hsz, hagg, hby, hzl, htk⟩ := tiOf_spec hty
  rw [hk] at htk
  obtain ⟨e, ei, d', rfl, hei, hed, hes, hea⟩ := tk_array htk
  refine Step.still fun Old wi K m S a w hr ht => ?_
  obtain ⟨e1, e2⟩ := evals_parts ht _ _ hp
  have hzv : VRl K w m S (ti.zero.map .v) z.cells.toList := by rw [hzl]; exact VRl.map_v _
  obtain ⟨xs, hx, hv⟩ := fill_vr _ ps (parts.toList.map fun p => (p.1, a.eval p.2)) _ cs z.cells hzv hc e1 e2
  refine ⟨.agg xs.toList.toArray, ?_, .agg _ _ _ hv.1 hv.2⟩
  have hparts : (parts.map fun (p : Nat × Operand) => (p.1, a.eval p.2)).toList = parts.toList.map fun p => (p.1, a.eval p.2) := by simp
  have hso : (sizeOf e).run P w = .ok es w := by rw [run_sizeOf w hei, Program.cellsOf, hei, ← hes]; rfl
  simp only [execOp, ho, Instr.build, Sem.run_bind, zeroValue, run_typeInfo w hi, Result.andThen, hzz, Sem.run_pure, run_underlying hd, hso]
  have hx' : Instr.fill (fun i => some (i * es, es)) z.cells (parts.map fun (p : Nat × Operand) => (p.1, a.eval p.2)).toList = some xs := by rw [hparts]; exact hx
  rw [hx']
  simp
theorem q_buildArr {t : TypeId} {parts : Array (Nat × Operand)} {ti : TI} {ps : List (Nat × AV)} {cs : List AV} {len es : Nat} {ea : Bool} (hd : Nat.blt d N = true) (hty : tiOf P t = some ti) (hk0 : ti.k = .array len es ea) (hm : evalP T parts.toList = some ps) (hc0 : fillA (fun i => some (i * es, es)) (ti.zero.map .v) ps = some cs)
    (h : SQ P N all l G ((d, .agg cs) :: T) H n) : SQ P N all (⟨some d, .build t parts, ty, pos, after, none⟩ :: l) G T H n :=
  sq_step rfl hd (s_buildArr rfl hty hk0 (evalP_m hm) hc0) h
end
section
variable {P : Program} {Old : Nat → Prop} {wi : WI Old} {K : Nat → Prop} {m : Nat → Loc} {S : Nat → Prop} {H : Hp} {w : World} {N n g : Nat} {T : Tp} {Q : Exit → Tp → Hp → Nat → Prop}
theorem Rel.reB {id ty sz : Nat} {pl : Bool} {rows rows' : List (List AV)} (hr : Rel Old wi K m S H w) (hl : look H id = some ⟨ty, sz, pl, rows⟩) (hlen : rows'.length = rows.length)
    (hw : ∀ (r : Nat) (row' : List AV), rows'[r]? = some row' → ∃ row, rows[r]? = some row ∧ row'.length = row.length ∧ ∀ (j : Nat) (cv' : AV), row'[j]? = some cv' → ∃ cv, row[j]? = some cv ∧ ∀ x, VR K w m S cv x → VR K w m S cv' x) : Rel Old wi K m S ((id, ⟨ty, sz, false, rows'⟩) :: H) w := by
  have old : ∀ i bi, look ((id, (⟨ty, sz, false, rows'⟩ : Blk)) :: H) i = some bi → ∃ b0, look H i = some b0 ∧ ((i = id ∧ bi = ⟨ty, sz, false, rows'⟩) ∨ bi = b0) := fun i bi h => by
    rw [look_cons] at h
    split at h
    · rename_i he; subst he; simp only [Option.some.injEq] at h; exact ⟨_, hl, .inl ⟨rfl, h.symm⟩⟩
    · exact ⟨bi, h, .inr rfl⟩
  refine { os := hr.os, tape := hr.tape, output := hr.output, size := hr.size, old := hr.old, olt := hr.olt, oown := fun i bi h => ?_, om := fun i bi h => ?_, kb := hr.kb, inS := fun i bi h => ?_, pin := hr.pin, pinS := hr.pinS, own := fun i bi h => ?_, inj := fun i j bi bj hi hj hne => ?_ }
  · obtain ⟨b0, h0, _⟩ := old i bi h; exact hr.oown i b0 h0
  · obtain ⟨b0, h0, hc⟩ := old i bi h
    rcases hc with ⟨rfl, rfl⟩ | rfl
    · exact fun hp hq => hr.om i ⟨ty, sz, pl, rows⟩ hl hp hq
    · exact hr.om i _ h0
  · obtain ⟨b0, h0, _⟩ := old i bi h; exact hr.inS i b0 h0
  · obtain ⟨b0, h0, hc⟩ := old i bi h
    rcases hc with ⟨rfl, rfl⟩ | rfl
    · rcases hr.own i _ hl with ⟨e1, e2⟩ | ⟨hp, hb⟩
      · refine .inl ⟨e1, ?_⟩
        simp only at e2
        rw [e2] at hlen
        exact List.length_eq_zero_iff.1 hlen
      · obtain ⟨cur, c1, c2, c3⟩ := hb.ex
        refine .inr ⟨hp, hb.nk, hb.sz, by have := hb.cap; simp only at this ⊢; rw [hlen]; exact this, hb.capm, (fun h => by cases h), cur, c1, c2, fun r row' hrow => ?_⟩
        obtain ⟨row, hr0, hlen, hcell⟩ := hw r row' hrow
        obtain ⟨g1, g2⟩ := c3 r row hr0
        refine ⟨hlen.trans g1, fun j cv' hj => ?_⟩
        obtain ⟨cv, hj0, hwk⟩ := hcell j cv' hj
        obtain ⟨x, hx, h1, hv⟩ := g2 j cv hj0
        refine ⟨x, hx, h1, (hwk x (hv.mono (fun _ h => h) (fun _ _ => rfl) (fun i hi => hi.1) (fun _ _ => rfl))).mono (fun _ h => h) (fun _ _ => rfl) (fun i hi => ⟨hi, rfl⟩) (fun _ _ => rfl)⟩
    · exact hr.own i _ h0
  · obtain ⟨b1, h1, _⟩ := old i bi hi
    obtain ⟨b2, h2, _⟩ := old j bj hj
    exact hr.inj i j b1 b2 h1 h2 hne
theorem aw_nilB {c : Code} (id r j ety esz : Nat) {ty sz : Nat} {pl : Bool} {rows rows' : List (List AV)} {row : List AV} (hl : look H id = some ⟨ty, sz, pl, rows⟩) (hne : Nat.beq n id = false) (hrow : rows[r]? = some row) (hj : row[j]? = some (.v (.slice none 0 0))) (he : rows.set r (row.set j (.sl n 0 0)) = rows')
    (h : AW P N g c Q T ((id, ⟨ty, sz, false, rows'⟩) :: (n, ⟨ety, esz, true, []⟩) :: H) (n + 1)) : AW P N g c Q T H n := fun Old wi K m a w hp hr ht => by
  have hn : ¬ (fun i => i < n) n := Nat.lt_irrefl n
  have hph := hr.phantom hn ety esz true
  have hm : ∀ i, i < n → updL m n ⟨0, 0, 0, true⟩ i = m i := fun i hi => updL_ne _ _ (fun e => hn (e ▸ hi))
  have eS : addS (fun i => i < n) n (n + 1) = fun i => i < n + 1 := addS_lt (Nat.le_succ n)
  rw [eS] at hph
  have hl2 : look ((n, (⟨ety, esz, true, []⟩ : Blk)) :: H) id = some ⟨ty, sz, pl, rows⟩ := by
    rw [look_cons, if_neg (fun e => by subst e; rw [Nat.beq_refl] at hne; cases hne)]; exact hl
  subst he
  refine h Old wi K _ a w hp (hph.reB hl2 (by simp) fun q row' hq => ?_) (ht.mono (fun _ h => h) (fun _ _ => rfl) (fun i (hi : i < n) => Nat.lt_succ_of_lt hi) hm)
  rw [List.getElem?_set] at hq
  split at hq
  · rename_i e
    subst e
    split at hq
    · simp only [Option.some.injEq] at hq
      subst hq
      refine ⟨row, hrow, by simp, fun k cv' hk => ?_⟩
      rw [List.getElem?_set] at hk
      split at hk
      · rename_i e
        subst e
        split at hk
        · simp only [Option.some.injEq] at hk
          subst hk
          refine ⟨_, hj, fun x hx => ?_⟩
          cases hx
          exact .sl0 _ _ _ _ (Nat.lt_succ_self n)
        · cases hk
      · exact ⟨cv', hk, fun x hx => hx⟩
    · cases hq
  · exact ⟨row', hq, rfl, fun k cv' hk => ⟨cv', hk, fun x hx => hx⟩⟩
end
theorem lk_om {T : Tp} {ρ : Nat → Nat} {n t id id' : Nat} {D D' : List (Value × Value)} (h : look T t = some (.om id' D')) (hi : id' = ρ id) (e : D' = D) (hn : Nat.blt id n = true) : look T t = some (renA ρ (.om id D)) ∧ idsOk n (.om id D) = true := by
  subst e hi; exact ⟨by rw [h]; simp only [renA], hn⟩
theorem lk_g {T : Tp} {ρ : Nat → Nat} {n t : Nat} {x y : List AV} (h : look T t = some (.agg y)) (e : y = x) (hr : renL ρ x = x) (hi : idsOkL n x = true) : look T t = some (renA ρ (.agg x)) ∧ idsOk n (.agg x) = true := by
  subst e; exact ⟨by rw [h]; simp only [renA, hr], hi⟩
end Go.Proofs.Ytglfcaioapdiaaa.Aw

namespace Go.Proofs.Ytglfcaioapdiaaa.Bk
open Go Go.RowKit Go.Proofs.Ytglfcaioapdiaaa.Aw
set_option linter.unusedSimpArgs false
set_option linter.unusedVariables false
attribute [local irreducible] AW SQ Step RO RC DE Thn InB
def farV (v : Int × Int) : Value := .agg #[.int .i64 v.1, .int .i64 v.2]
def farD (F : Far) : List (Value × Value) := F.map fun p => (.int .i64 p.1, farV p.2)
theorem farD_keys : ∀ F : Far, keysI (farD F) = true
  | [] => rfl
  | p :: F => by
    have := farD_keys F
    simp only [farD, keysI, List.map_cons, List.all_cons] at this ⊢
    simp only [this, Bool.and_true]
theorem farD_get : ∀ (F : Far) (k : Int), mget (farD F) k = (fget F k).map farV
  | [], k => rfl
  | (x, v) :: F, k => by
    have := farD_get F k
    simp only [farD, List.map_cons, mget, fget] at this ⊢
    split
    · rfl
    · exact this
theorem farD_set : ∀ (F : Far) (k : Int) (v : Int × Int), mset (farD F) k (farV v) = farD (fset F k v)
  | [], k, v => rfl
  | (x, u) :: F, k, v => by
    have := farD_set F k v
    simp only [farD, List.map_cons, mset, fset] at this ⊢
    split
    · rfl
    · rw [this]; rfl
theorem map_ty : Try.prog.underlying 114 = some (.map 2 117) := by kernel_rfl
theorem map_k : Try.prog.underlying 2 = some (.int .i64) := by kernel_rfl
theorem map_z : (Try.prog.info? 117).bind (·.zero) = some (.agg #[.int .i64 0, .int .i64 0]) := by kernel_rfl
section
variable {N n : Nat} {all : Array Oper} {l : List Oper} {G : Tp → Hp → Nat → Prop} {T T' : Tp} {H : Hp} {ty : TypeId} {pos : String} {after : Array Edge} {d : Nat}
theorem far_getD (F : Far) (k : Int) : (mget (farD F) k).getD (.agg #[.int .i64 0, .int .i64 0]) = .agg #[.int .i64 (fc F k), .int .i64 (fl F k)] := by
  rw [farD_get]
  unfold fc fl
  cases fget F k <;> rfl
theorem far_has (F : Far) (k : Int) : (mget (farD F) k).isSome = fh F k := by
  rw [farD_get]
  unfold fh
  cases fget F k <;> rfl
theorem q_farOk {x y : Operand} {id : Nat} {F : Far} {k : Int} (hd : Nat.blt d N = true) (hx : evalA T x = some (.om id (farD F))) (hy : evalA T y = some (.v (.int .i64 k)))
    (h : SQ Try.prog N all l G ((d, .tup [.agg [.v (.int .i64 (fc F k)), .v (.int .i64 (fl F k))], .v (.bool (fh F k))]) :: T) H n) : SQ Try.prog N all (⟨some d, .lookup 114 x y true, ty, pos, after, none⟩ :: l) G T H n :=
  sq_step rfl hd (Step.vok (s_lookup (ok := true) rfl hx hy map_ty map_k map_z (farD_keys F) (far_has F k) (far_getD F k)) (.agg2 _ _)) h
theorem q_far {x y : Operand} {id : Nat} {F : Far} {k : Int} (hd : Nat.blt d N = true) (hx : evalA T x = some (.om id (farD F))) (hy : evalA T y = some (.v (.int .i64 k)))
    (h : SQ Try.prog N all l G ((d, .agg [.v (.int .i64 (fc F k)), .v (.int .i64 (fl F k))]) :: T) H n) : SQ Try.prog N all (⟨some d, .lookup 114 x y false, ty, pos, after, none⟩ :: l) G T H n :=
  sq_step rfl hd (Step.vv (s_lookup (ok := false) rfl hx hy map_ty map_k map_z (farD_keys F) rfl (far_getD F k)) (.agg2 _ _)) h
theorem q_farPut {x y z : Operand} {id : Nat} {b : Blk} {F : Far} {k c j : Int} (hx : evalA T x = some (.om id (farD F))) (hy : evalA T y = some (.v (.int .i64 k))) (hz : evalA T z = some (.agg [.v (.int .i64 c), .v (.int .i64 j)])) (hl : Aw.look H id = some b)
    (hH : noOmH H = true) (hT : omT id (farD (fset F k (c, j))) T = some T') (h : SQ Try.prog N all l G T' H n) : SQ Try.prog N all (⟨none, .mapUpdate 114 x y z, ty, pos, after, none⟩ :: l) G T H n :=
  q_mapPut hx hy hz (.agg2 _ _) hl map_ty map_k (farD_keys F) hH (farD_set F k (c, j)) hT h
theorem q_farIns {x y z : Operand} {id : Nat} {b : Blk} {k c j : Int} (hx : evalA T x = some (.om id [])) (hy : evalA T y = some (.v (.int .i64 k))) (hz : evalA T z = some (.agg [.v (.int .i64 c), .v (.int .i64 j)])) (hl : Aw.look H id = some b)
    (hH : noOmH H = true) (hT : omT id (farD [(k, c, j)]) T = some T') (h : SQ Try.prog N all l G T' H n) : SQ Try.prog N all (⟨none, .insert 114 x y z, ty, pos, after, none⟩ :: l) G T H n :=
  q_mapIns hx hy hz (.agg2 _ _) hl map_ty map_k rfl hH rfl hT h
end
set_option maxHeartbeats 4000000 in
theorem less_ro (c l c' l' : Int) (k : Nat) : RO Try.prog 118 [.agg [.v (.int .i64 c), .v (.int .i64 l)], .agg [.v (.int .i64 c'), .v (.int .i64 l')]] k (.v (.bool (lessF (c, l) (c', l')))) [] k := by
  refine RO.ofv' Try.func118 Try.ntmps118 rfl (goFn_of Try.func118 rfl (by kernel_rfl)) rfl rfl ?_
  ((repeat' (first
    | (show SQ _ _ _ _ _ _ _ _; first | apply sq_nil | (apply q_assign; exact rfl; exact rfl))
    | (show SQ _ _ _ _ _ _ _ _; (first | (apply q_box; exact rfl; exact rfl; exact rfl)); (try simp only [put, rowsOf, plR, List.all_cons, selE, ovr, setH, del, cellsA, splice, isV, List.nil_append, List.cons_append, List.map_cons, List.map_nil, List.length_cons, List.length_nil, List.set_cons_zero, List.set_cons_succ, List.take_succ_cons, List.take_zero, List.take_nil, List.drop_succ_cons, List.drop_zero, List.drop_nil, List.append_nil, List.all_cons, List.all_nil, Bool.and_true, Bool.true_and, Bool.and_false, Bool.false_and, Nat.reduceAdd, Nat.zero_add, Nat.add_zero, Nat.reduceEqDiff, if_true, if_false, reduceIte]))
    | (show DE _ _ _ _ _ _ _ _ _ _ _ _; first | (apply e_assign; exact rfl; exact rfl; exact rfl) | (apply e_fieldAddr; exact rfl; exact rfl; exact (ty rfl); exact rfl; exact rfl; exact rfl; exact rfl; exact rfl) | (apply e_lss; exact rfl; exact rfl; exact rfl; exact rfl) | (apply e_ld1p; exact rfl; exact rfl; exact (ty rfl); exact rfl; exact rfl; exact (by first | rfl | assumption | ((try simp only [Nat.zero_add]); refine List.getElem?_set_self ?_; (try simp only [List.length_set]); assumption)); exact rfl; exact rfl))
    | (show DE _ _ _ _ _ _ _ _ _ _ _ _; (first | (apply dr_nil; exact trivial) | (apply e_buildn; exact rfl; exact (ty rfl); exact rfl; exact rfl; exact rfl; exact rfl; exact rfl; exact rfl; exact rfl; exact rfl) | (apply e_callU; exact rfl; exact rfl; exact rfl; exact FzL.of rfl; exact Compare_ro _ _ _; exact rfl) | (apply e_callU; exact rfl; exact rfl; exact rfl; exact FzL.of rfl; exact Or_ro _ _ _; exact rfl)); (try simp only [put, rowsOf, plR, List.all_cons, selE, ovr, setH, del, cellsA, splice, isV, List.nil_append, List.cons_append, List.map_cons, List.map_nil, List.length_cons, List.length_nil, List.set_cons_zero, List.set_cons_succ, List.take_succ_cons, List.take_zero, List.take_nil, List.drop_succ_cons, List.drop_zero, List.drop_nil, List.append_nil, List.all_cons, List.all_nil, Bool.and_true, Bool.true_and, Bool.and_false, Bool.false_and, Nat.reduceAdd, Nat.zero_add, Nat.add_zero, Nat.reduceEqDiff, if_true, if_false, reduceIte]))
    | (show AW _ _ _ _ _ _ _ _; first | refine aw_region ?_ | (refine aw_seqk ?_; intro K hK) | refine aw_ret ?_ | refine aw_drawE (id := 1) [0, 1, 0, 4, 15, 0, 32, 0, 128, 511, 1023, 2047, 4095, 8191] [0, 1, 0, 1, 1, 0, 1, 0, 1, 1, 1, 1, 0, 0] mixed (by kernel_rfl) ?_)
    | refine thn_n ?_
    | (refine hK _ _ _ ?_; clear hK K))); all_goals (repeat (clear hK K)))
  all_goals refine fin_r (fin_b rfl ?_)
  unfold lessF i64c
  simp only
  grind
end Go.Proofs.Ytglfcaioapdiaaa.Bk

-- How far each node is: the walk of the rounds.
namespace Go.Proofs.Ytglfcaioapdiaaa.Bk
open Go Go.RowKit Go.Proofs.Ytglfcaioapdiaaa.Aw
set_option linter.unusedSimpArgs false
set_option linter.unusedVariables false
attribute [local irreducible] AW SQ Step RO RC DE Thn InB
theorem fstep_case (st : Far × Bool) (x y o : Int) : (fimp st.1 x y o = true ∧ fstep st x y o = (fset st.1 y (fc st.1 x + o, fl st.1 x + 1), true)) ∨ (fimp st.1 x y o = false ∧ fstep st x y o = st) := by
  unfold fstep
  cases fimp st.1 x y o
  · exact .inr ⟨rfl, rfl⟩
  · exact .inl ⟨rfl, rfl⟩
set_option maxHeartbeats 4000000 in
theorem farTo_rc (n : Int) (ls : List Ln) (to : Int) (hN : 1 ≤ n ∧ n ≤ 12) (hn : ls.length ≤ 1048576) (hL : LnsOk n ls) (ht : 0 ≤ to ∧ to < n) (k : Nat) :
    RC Try.prog 91 [.agg (bkL n ls), .v (.int .i64 to)] [] k (.om k (farD (farR n ls to))) [] (k + 1) := by
  refine RC.ofc [] 1 [.agg (bkL n ls), .v (.int .i64 to)] [] (.om 0 (farD (farR n ls to))) [] Try.func91 Try.ntmps91 rfl (goFn_of Try.func91 rfl (by kernel_rfl)) rfl rfl rfl rfl rfl rfl rfl rfl (by simp_all) rfl ?_
  unfold bkL
  ((repeat' (first
    | (show SQ _ _ _ _ _ _ _ _; first | apply sq_nil | (apply q_move; exact rfl; exact rfl) | (apply q_assign; exact rfl; exact rfl) | (apply q_build; exact rfl; exact (ty rfl); exact rfl; exact rfl; exact rfl))
    | (show SQ _ _ _ _ _ _ _ _; (first | (apply q_box; exact rfl; exact rfl; exact rfl)); (try simp only [put, rowsOf, plR, List.all_cons, selE, ovr, setH, del, cellsA, splice, isV, List.nil_append, List.cons_append, List.map_cons, List.map_nil, List.length_cons, List.length_nil, List.set_cons_zero, List.set_cons_succ, List.take_succ_cons, List.take_zero, List.take_nil, List.drop_succ_cons, List.drop_zero, List.drop_nil, List.append_nil, List.all_cons, List.all_nil, Bool.and_true, Bool.true_and, Bool.and_false, Bool.false_and, Nat.reduceAdd, Nat.zero_add, Nat.add_zero, Nat.reduceEqDiff, if_true, if_false, reduceIte]))
    | (show AW _ _ _ _ _ _ _ _; first | refine aw_region ?_ | (refine aw_seqk ?_; intro K hK) | refine aw_block ?_)
    | refine thn_n ?_
    | (refine hK _ _ _ ?_; clear hK K)
    | (show SQ _ _ _ _ _ _ _ _; apply q_makeMap; exact rfl; (try simp only [put, rowsOf, plR, List.all_cons, selE, ovr, setH, del, cellsA, splice, isV, List.nil_append, List.cons_append, List.map_cons, List.map_nil, List.length_cons, List.length_nil, List.set_cons_zero, List.set_cons_succ, List.take_succ_cons, List.take_zero, List.take_nil, List.drop_succ_cons, List.drop_zero, List.drop_nil, List.append_nil, List.all_cons, List.all_nil, Bool.and_true, Bool.true_and, Bool.and_false, Bool.false_and, Nat.reduceAdd, Nat.zero_add, Nat.add_zero, Nat.reduceEqDiff, if_true, if_false, reduceIte]))
    | (show SQ _ _ _ _ _ _ _ _; apply q_farIns; exact rfl; exact rfl; exact rfl; exact rfl; exact rfl; exact rfl; (try simp only [put, rowsOf, plR, List.all_cons, selE, ovr, setH, del, cellsA, splice, isV, List.nil_append, List.cons_append, List.map_cons, List.map_nil, List.length_cons, List.length_nil, List.set_cons_zero, List.set_cons_succ, List.take_succ_cons, List.take_zero, List.take_nil, List.drop_succ_cons, List.drop_zero, List.drop_nil, List.append_nil, List.all_cons, List.all_nil, Bool.and_true, Bool.true_and, Bool.and_false, Bool.false_and, Nat.reduceAdd, Nat.zero_add, Nat.add_zero, Nat.reduceEqDiff, if_true, if_false, reduceIte])))); all_goals (repeat (clear hK K)))
  have hE := fun x y o (h : EL ls x y o) => EL.ok hL h
  have hM := fun x y o (h : EL ls x y o) => EL.le hL h
  refine aw_loop (ρ := id) (ι := Far × Bool) (fun p => ([(6, .v (.bool p.2)), (5, .om 1 (farD p.1)), (2, .ptr 0 0 0)], [(0, ⟨31, 2, false, [[.v (.int .i64 n), .dsl 4 (ls.map lnL)]]⟩), (1, ⟨0, 1000003, true, []⟩)], 2))
    (fun p => FG (EL ls) to n p.1 ∧ (p.2 = true → ∃ q, mu n p.1 < q ∧ farF ls q p.1 = farR n ls to) ∧ (p.2 = false → p.1 = farR n ls to)) (fun p => if p.2 then mu n p.1 + 1 else 0) ([(to, 0, 0)], true)
    ⟨FG.start, fun _ => ⟨_, Nat.lt_succ_self _, rfl⟩, fun h => by cases h⟩ ⟨by (repeat (refine ⟨by first | exact lk_v rfl rfl | exact lk_r rfl rfl rfl | exact lk_om rfl rfl rfl rfl, ?_⟩)); exact trivial, by (repeat (refine ⟨by first | exact ⟨rfl, rfl, rfl⟩, ?_⟩)); exact trivial, by rfl, by exact pin_0⟩ ?_
  rintro ⟨F, more⟩ ⟨hF, hu, hs⟩
  dsimp only at hF hu hs ⊢
  cases more with
  | false =>
    have hs := hs rfl
    subst hs
    ((repeat' (first
    | (show SQ _ _ _ _ _ _ _ _; first | apply sq_nil | (apply q_move; exact rfl; exact rfl) | (apply q_assign; exact rfl; exact rfl))
    | (show AW _ _ _ _ _ _ _ _; first | refine aw_region ?_ | (refine aw_seqk ?_; intro K hK) | (apply aw_cond_f; exact rfl; exact rfl) | refine aw_ret ?_ | refine aw_exit ?_)
    | refine thn_n ?_
    | (refine hK _ _ _ ?_; clear hK K)
    | refine thn_e ?_
    | refine inb_same ?_
    | (clear hK K; refine hK _ _ _ ?_; clear hK K))); all_goals (repeat (clear hK K)))
    all_goals exact finc (fun _ => 1) (.r1 _ _ (.tmp _ _ rfl)) (by simp only [renA]) (fun _ h => absurd h (Nat.not_lt_zero _)) trivial rfl
  | true =>
    obtain ⟨q0, hq0, hR⟩ := hu rfl
    clear hu hs
    obtain ⟨q1, rfl⟩ : ∃ q1, q0 = q1 + 1 := ⟨q0 - 1, by omega⟩
    have hP0 : FS n to ls F (F, false) := ⟨hF, fun h => (by cases h), fun _ => rfl⟩
    ((repeat' (first
    | (show SQ _ _ _ _ _ _ _ _; first | apply sq_nil | (apply q_move; exact rfl; exact rfl) | (apply q_assign; exact rfl; exact rfl) | (apply q_fieldAddr; exact rfl; exact rfl; exact (ty rfl); exact rfl; exact rfl; exact rfl; exact rfl) | (apply q_lend; exact rfl; exact rfl; exact (ty rfl); exact rfl) | (apply q_ld1p; exact rfl; exact rfl; exact (ty rfl); exact rfl; exact rfl; exact (by first | rfl | assumption | ((try simp only [Nat.zero_add]); refine List.getElem?_set_self ?_; (try simp only [List.length_set]); assumption)); exact rfl))
    | (show AW _ _ _ _ _ _ _ _; first | refine aw_region ?_ | (refine aw_seqk ?_; intro K hK) | refine aw_block ?_ | (apply aw_cond_t; exact rfl; exact rfl) | refine aw_skip ?_)
    | refine thn_n ?_
    | (refine hK _ _ _ ?_; clear hK K))); all_goals (repeat (clear hK K)))
    refine aw_loop (ρ := id) (ι := Nat) (fun i => ([(24, .v (.int .i64 i)), (23, .v (.int .i64 ls.length)), (22, .dsl 4 (ls.map lnL)), (6, .v (.bool (fpass ls (F, false) i).2)), (5, .om 1 (farD (fpass ls (F, false) i).1)), (2, .ptr 0 0 0)], [(0, ⟨31, 2, false, [[.v (.int .i64 n), .dsl 4 (ls.map lnL)]]⟩), (1, ⟨0, 1000003, true, []⟩)], 2))
      (fun i => i ≤ ls.length) (fun i => ls.length - i) 0 (Nat.zero_le _) ⟨by (repeat (refine ⟨by first | exact lk_i rfl rfl | exact lk_i rfl (by (try dsimp only); first | rfl | omega | (rw [IntWalk.i64_in _ (by omega)]; first | rfl | omega | (push_cast; omega)) | (simp; done) | (simp; omega)) | exact lk_d rfl rfl | exact lk_v rfl rfl | exact lk_r rfl rfl rfl | exact lk_om rfl rfl rfl rfl, ?_⟩)); exact trivial, by (repeat (refine ⟨by first | exact ⟨rfl, rfl, rfl⟩, ?_⟩)); exact trivial, by rfl, by exact pin_0⟩ ?_
    intro i hi
    have hS := FS.pass hL hN.2 ht hP0 i hi
    by_cases c1 : i < ls.length
    · have b1 : decide ((i : Int) < (ls.length : Int)) = true := by simpa using c1
      have hrow : (ls.map lnL)[((i : Int)).toNat]? = some (lnL ls[i]) := by simp [c1]
      rw [lnL_eq] at hrow
      have hnx : fpass ls (F, false) (i + 1) = ftwo (fpass ls (F, false) i) ls[i] 2 := by simp [fpass, List.getD, c1]
      have hw1 : IntKind.i64.wrap ((i : Int) + 1) = ((i + 1 : Nat) : Int) := by rw [IntWalk.i64_in _ (by omega)]; omega
      generalize fpass ls (F, false) i = st at hS hnx ⊢
      have hmem := List.getElem_mem c1
      generalize ls[i] = l at hrow hnx hmem
      have heE := EL.of hmem
      ((repeat' (first
    | (show SQ _ _ _ _ _ _ _ _; first | apply sq_nil | (apply q_move; exact rfl; exact rfl) | (apply q_fieldAddr; exact rfl; exact rfl; exact (ty rfl); exact rfl; exact rfl; exact rfl; exact rfl) | (apply q_lss; exact rfl; exact rfl; exact rfl) | (apply q_ixd; exact rfl; exact rfl; exact rfl; exact (ty rfl); exact rfl; exact (by first | omega | (simp; done) | (simp; omega)); exact (by first | omega | (simp; done) | (simp; omega)); exact (by first | rfl | assumption)) | (apply q_ld1p; exact rfl; exact rfl; exact (ty rfl); exact rfl; exact rfl; exact (by first | rfl | assumption | ((try simp only [Nat.zero_add]); refine List.getElem?_set_self ?_; (try simp only [List.length_set]); assumption)); exact rfl))
    | (show SQ _ _ _ _ _ _ _ _; (first | (apply q_ldad; exact rfl; exact rfl; exact (ty rfl); exact rfl; exact rfl) | (apply q_alloc; exact rfl; exact (ty rfl); exact rfl; exact rfl) | (apply q_store; exact rfl; exact rfl; exact (ty rfl); exact rfl; exact (by first | rfl | assumption | ((try simp only [Nat.zero_add]); refine List.getElem?_set_self ?_; (try simp only [List.length_set]); assumption)); exact rfl; exact rfl; exact rfl)); (try simp only [put, rowsOf, plR, List.all_cons, selE, ovr, setH, del, cellsA, splice, isV, List.nil_append, List.cons_append, List.map_cons, List.map_nil, List.length_cons, List.length_nil, List.set_cons_zero, List.set_cons_succ, List.take_succ_cons, List.take_zero, List.take_nil, List.drop_succ_cons, List.drop_zero, List.drop_nil, List.append_nil, List.all_cons, List.all_nil, Bool.and_true, Bool.true_and, Bool.and_false, Bool.false_and, Nat.reduceAdd, Nat.zero_add, Nat.add_zero, Nat.reduceEqDiff, if_true, if_false, reduceIte]))
    | (show AW _ _ _ _ _ _ _ _; first | refine aw_region ?_ | (refine aw_seqk ?_; intro K hK) | refine aw_block ?_ | (apply aw_cond_t; exact rfl; exact (by assumption)) | refine aw_skip ?_)
    | refine thn_n ?_
    | (refine hK _ _ _ ?_; clear hK K)
    | (show SQ _ _ _ _ _ _ _ _; apply q_buildArr; exact rfl; exact (ty rfl); exact rfl; exact rfl; exact rfl; (try simp only [put, rowsOf, plR, List.all_cons, selE, ovr, setH, del, cellsA, splice, isV, List.nil_append, List.cons_append, List.map_cons, List.map_nil, List.length_cons, List.length_nil, List.set_cons_zero, List.set_cons_succ, List.take_succ_cons, List.take_zero, List.take_nil, List.drop_succ_cons, List.drop_zero, List.drop_nil, List.append_nil, List.all_cons, List.all_nil, Bool.and_true, Bool.true_and, Bool.and_false, Bool.false_and, Nat.reduceAdd, Nat.zero_add, Nat.add_zero, Nat.reduceEqDiff, if_true, if_false, reduceIte])))); all_goals (repeat (clear hK K)))
      refine aw_loop (ρ := id) (ι := Nat) (fun q => ([(39, .v (.int .i64 q)), (38, .agg [.v (.int .i64 l.a), .v (.int .i64 l.b), .v (.int .i64 l.b), .v (.int .i64 l.a)]), (24, .v (.int .i64 i)), (23, .v (.int .i64 ls.length)), (22, .dsl 4 (ls.map lnL)), (8, .ptr 2 0 0), (6, .v (.bool (ftwo st l q).2)), (5, .om 1 (farD (ftwo st l q).1)), (2, .ptr 0 0 0)], [(0, ⟨31, 2, false, [[.v (.int .i64 n), .dsl 4 (ls.map lnL)]]⟩), (1, ⟨0, 1000003, true, []⟩), (2, ⟨56, 4, false, [[.v (.int .i64 l.a), .v (.int .i64 l.b), .v (.int .i64 l.o), .v (.int .i64 l.c)]]⟩)], 3))
        (fun q => q ≤ 2) (fun q => 2 - q) 0 (Nat.zero_le _) ⟨by (repeat (refine ⟨by first | exact lk_i rfl rfl | exact lk_d rfl rfl | exact lk_v rfl rfl | exact lk_r rfl rfl rfl | exact lk_om rfl rfl rfl rfl | exact lk_g rfl rfl (by simp only [renL, renA]) rfl, ?_⟩)); exact trivial, by (repeat (refine ⟨by first | exact ⟨rfl, rfl, rfl⟩, ?_⟩)); exact trivial, by rfl, by exact pin_0⟩ ?_
      intro q hq
      have hSq := FS.two hL hN.2 ht hS hmem q
      match q, hq with
      | 0, _ =>
        have b2 : decide (((0 : Nat) : Int) < 2) = true := by decide
        have hw2 : IntKind.i64.wrap (((0 : Nat) : Int) + 1) = ((1 : Nat) : Int) := by decide
        have hst : ftwo st l 1 = fstep (ftwo st l 0) l.a l.b l.o := rfl
        generalize ftwo st l 0 = u at hSq hst ⊢
        have hb1 := FG.bc hE ht hM hN.2 hSq.good l.a
        have hb2 := hL l hmem
        have hwc : IntKind.i64.wrap (fc u.1 l.a + l.o) = fc u.1 l.a + l.o := IntWalk.i64_in _ (by omega)
        have hwl : IntKind.i64.wrap (fl u.1 l.a + 1) = fl u.1 l.a + 1 := IntWalk.i64_in _ (by omega)
        have hcs := fstep_case u l.a l.b l.o
        rw [← hst] at hcs
        unfold fimp at hcs
        rw [← hwc, ← hwl] at hcs
        clear hwc hwl hb1 hb2 hst
        ((repeat' (first
    | (show SQ _ _ _ _ _ _ _ _; first | apply sq_nil | (apply q_move; exact rfl; exact rfl) | (apply q_assign; exact rfl; exact rfl) | (apply q_pick_t; exact rfl; exact rfl; exact rfl; exact (by first | assumption | exact rfl)) | (apply q_pick_f; exact rfl; exact rfl; exact rfl; exact (by first | assumption | exact rfl)) | (apply q_fieldAddr; exact rfl; exact rfl; exact (ty rfl); exact rfl; exact rfl; exact rfl; exact rfl) | (apply q_not; exact rfl; exact rfl) | (apply q_ext; exact rfl; exact rfl; exact rfl) | (apply q_add; exact rfl; exact rfl; exact rfl) | (apply q_lss; exact rfl; exact rfl; exact rfl) | (apply q_ixa; exact rfl; exact rfl; exact rfl; exact (ty rfl); exact rfl; exact (by first | omega | (simp; done) | (simp; omega)); exact (by first | omega | (simp; done) | (simp; omega)); exact rfl) | (apply q_ld1p; exact rfl; exact rfl; exact (ty rfl); exact rfl; exact rfl; exact (by first | rfl | assumption | ((try simp only [Nat.zero_add]); refine List.getElem?_set_self ?_; (try simp only [List.length_set]); assumption)); exact rfl) | (apply q_build; exact rfl; exact (ty rfl); exact rfl; exact rfl; exact rfl) | (apply q_ixga; exact rfl; exact rfl; exact rfl; exact (ty rfl); exact rfl; exact (by first | omega | (simp; done) | (simp; omega)); exact (by first | omega | (simp; done) | (simp; omega))) | (apply q_g; exact rfl; exact rfl; exact rfl; exact (by assumption)) | (apply q_s; exact rfl; exact rfl; exact rfl; exact (by assumption); exact rfl) | (apply q_sU; exact rfl; exact rfl; exact rfl; exact rfl))
    | (show SQ _ _ _ _ _ _ _ _; (first | (apply q_ldap; exact rfl; exact rfl; exact (ty rfl); exact rfl; exact rfl; exact (by first | rfl | assumption | ((try simp only [Nat.zero_add]); refine List.getElem?_set_self ?_; (try simp only [List.length_set]); assumption)); exact rfl) | (apply q_alloc; exact rfl; exact (ty rfl); exact rfl; exact rfl) | (apply q_store; exact rfl; exact rfl; exact (ty rfl); exact rfl; exact (by first | rfl | assumption | ((try simp only [Nat.zero_add]); refine List.getElem?_set_self ?_; (try simp only [List.length_set]); assumption)); exact rfl; exact rfl; exact rfl) | (apply q_callU; exact rfl; exact rfl; exact rfl; exact FzL.of rfl; exact less_ro _ _ _ _ _)); (try simp only [put, rowsOf, plR, List.all_cons, selE, ovr, setH, del, cellsA, splice, isV, List.nil_append, List.cons_append, List.map_cons, List.map_nil, List.length_cons, List.length_nil, List.set_cons_zero, List.set_cons_succ, List.take_succ_cons, List.take_zero, List.take_nil, List.drop_succ_cons, List.drop_zero, List.drop_nil, List.append_nil, List.all_cons, List.all_nil, Bool.and_true, Bool.true_and, Bool.and_false, Bool.false_and, Nat.reduceAdd, Nat.zero_add, Nat.add_zero, Nat.reduceEqDiff, if_true, if_false, reduceIte]))
    | (show SQ _ _ _ _ _ _ _ _; apply q_gs; exact rfl; exact rfl; exact rfl; exact rfl; all_goals intro h)
    | (show AW _ _ _ _ _ _ _ _; first | refine aw_region ?_ | (refine aw_seqk ?_; intro K hK) | refine aw_block ?_ | (apply aw_cond_t; exact rfl; exact rfl) | (apply aw_cond_f; exact rfl; exact rfl) | refine aw_skip ?_ | (apply aw_ite; exact rfl; all_goals intro h))
    | refine thn_n ?_
    | (refine hK _ _ _ ?_; clear hK K)
    | refine inb_n ?_
    | (show SQ _ _ _ _ _ _ _ _; apply q_farOk; exact rfl; exact rfl; exact rfl; (try simp only [put, rowsOf, plR, List.all_cons, selE, ovr, setH, del, cellsA, splice, isV, List.nil_append, List.cons_append, List.map_cons, List.map_nil, List.length_cons, List.length_nil, List.set_cons_zero, List.set_cons_succ, List.take_succ_cons, List.take_zero, List.take_nil, List.drop_succ_cons, List.drop_zero, List.drop_nil, List.append_nil, List.all_cons, List.all_nil, Bool.and_true, Bool.true_and, Bool.and_false, Bool.false_and, Nat.reduceAdd, Nat.zero_add, Nat.add_zero, Nat.reduceEqDiff, if_true, if_false, reduceIte]))
    | (show SQ _ _ _ _ _ _ _ _; apply q_farPut; exact rfl; exact rfl; exact rfl; exact rfl; exact rfl; exact rfl; (try simp only [put, rowsOf, plR, List.all_cons, selE, ovr, setH, del, cellsA, splice, isV, List.nil_append, List.cons_append, List.map_cons, List.map_nil, List.length_cons, List.length_nil, List.set_cons_zero, List.set_cons_succ, List.take_succ_cons, List.take_zero, List.take_nil, List.drop_succ_cons, List.drop_zero, List.drop_nil, List.append_nil, List.all_cons, List.all_nil, Bool.and_true, Bool.true_and, Bool.and_false, Bool.false_and, Nat.reduceAdd, Nat.zero_add, Nat.add_zero, Nat.reduceEqDiff, if_true, if_false, reduceIte])))); all_goals (repeat (clear hK K)))
        all_goals first
          | (rcases hcs with ⟨g1, g2⟩ | ⟨g1, g2⟩
             · refine ⟨1, id, by omega, by omega, ?_⟩
               (try dsimp only); rw [g2, ← hw2]; exact ⟨by (repeat (refine ⟨by first | exact lk_i rfl rfl | exact lk_d rfl rfl | exact lk_v rfl rfl | exact lk_r rfl rfl rfl | exact lk_om rfl rfl rfl rfl | exact lk_g rfl rfl (by simp only [renL, renA]) rfl | exact lk_v rfl (by (try dsimp only); first | rfl | assumption | (simp; done)), ?_⟩)); exact trivial, by (repeat (refine ⟨by first | exact ⟨rfl, rfl, rfl⟩, ?_⟩)); exact trivial, by rfl, by exact pin_0⟩
             · exfalso; simp_all; done)
          | (rcases hcs with ⟨g1, g2⟩ | ⟨g1, g2⟩
             · exfalso; simp_all; done
             · refine ⟨1, id, by omega, by omega, ?_⟩
               (try dsimp only); rw [g2, ← hw2]; exact ⟨by (repeat (refine ⟨by first | exact lk_i rfl rfl | exact lk_d rfl rfl | exact lk_v rfl rfl | exact lk_r rfl rfl rfl | exact lk_om rfl rfl rfl rfl | exact lk_g rfl rfl (by simp only [renL, renA]) rfl, ?_⟩)); exact trivial, by (repeat (refine ⟨by first | exact ⟨rfl, rfl, rfl⟩, ?_⟩)); exact trivial, by rfl, by exact pin_0⟩)
      | 1, _ =>
        have b2 : decide (((1 : Nat) : Int) < 2) = true := by decide
        have hw2 : IntKind.i64.wrap (((1 : Nat) : Int) + 1) = ((2 : Nat) : Int) := by decide
        have hst : ftwo st l 2 = fstep (ftwo st l 1) l.b l.a l.o := rfl
        generalize ftwo st l 1 = u at hSq hst ⊢
        have hb1 := FG.bc hE ht hM hN.2 hSq.good l.b
        have hb2 := hL l hmem
        have hwc : IntKind.i64.wrap (fc u.1 l.b + l.o) = fc u.1 l.b + l.o := IntWalk.i64_in _ (by omega)
        have hwl : IntKind.i64.wrap (fl u.1 l.b + 1) = fl u.1 l.b + 1 := IntWalk.i64_in _ (by omega)
        have hcs := fstep_case u l.b l.a l.o
        rw [← hst] at hcs
        unfold fimp at hcs
        rw [← hwc, ← hwl] at hcs
        clear hwc hwl hb1 hb2 hst
        ((repeat' (first
    | (show SQ _ _ _ _ _ _ _ _; first | apply sq_nil | (apply q_move; exact rfl; exact rfl) | (apply q_assign; exact rfl; exact rfl) | (apply q_pick_t; exact rfl; exact rfl; exact rfl; exact (by first | assumption | exact rfl)) | (apply q_pick_f; exact rfl; exact rfl; exact rfl; exact (by first | assumption | exact rfl)) | (apply q_fieldAddr; exact rfl; exact rfl; exact (ty rfl); exact rfl; exact rfl; exact rfl; exact rfl) | (apply q_not; exact rfl; exact rfl) | (apply q_ext; exact rfl; exact rfl; exact rfl) | (apply q_add; exact rfl; exact rfl; exact rfl) | (apply q_lss; exact rfl; exact rfl; exact rfl) | (apply q_ixa; exact rfl; exact rfl; exact rfl; exact (ty rfl); exact rfl; exact (by first | omega | (simp; done) | (simp; omega)); exact (by first | omega | (simp; done) | (simp; omega)); exact rfl) | (apply q_ld1p; exact rfl; exact rfl; exact (ty rfl); exact rfl; exact rfl; exact (by first | rfl | assumption | ((try simp only [Nat.zero_add]); refine List.getElem?_set_self ?_; (try simp only [List.length_set]); assumption)); exact rfl) | (apply q_build; exact rfl; exact (ty rfl); exact rfl; exact rfl; exact rfl) | (apply q_ixga; exact rfl; exact rfl; exact rfl; exact (ty rfl); exact rfl; exact (by first | omega | (simp; done) | (simp; omega)); exact (by first | omega | (simp; done) | (simp; omega))) | (apply q_g; exact rfl; exact rfl; exact rfl; exact (by assumption)) | (apply q_s; exact rfl; exact rfl; exact rfl; exact (by assumption); exact rfl) | (apply q_sU; exact rfl; exact rfl; exact rfl; exact rfl))
    | (show SQ _ _ _ _ _ _ _ _; (first | (apply q_ldap; exact rfl; exact rfl; exact (ty rfl); exact rfl; exact rfl; exact (by first | rfl | assumption | ((try simp only [Nat.zero_add]); refine List.getElem?_set_self ?_; (try simp only [List.length_set]); assumption)); exact rfl) | (apply q_alloc; exact rfl; exact (ty rfl); exact rfl; exact rfl) | (apply q_store; exact rfl; exact rfl; exact (ty rfl); exact rfl; exact (by first | rfl | assumption | ((try simp only [Nat.zero_add]); refine List.getElem?_set_self ?_; (try simp only [List.length_set]); assumption)); exact rfl; exact rfl; exact rfl) | (apply q_callU; exact rfl; exact rfl; exact rfl; exact FzL.of rfl; exact less_ro _ _ _ _ _)); (try simp only [put, rowsOf, plR, List.all_cons, selE, ovr, setH, del, cellsA, splice, isV, List.nil_append, List.cons_append, List.map_cons, List.map_nil, List.length_cons, List.length_nil, List.set_cons_zero, List.set_cons_succ, List.take_succ_cons, List.take_zero, List.take_nil, List.drop_succ_cons, List.drop_zero, List.drop_nil, List.append_nil, List.all_cons, List.all_nil, Bool.and_true, Bool.true_and, Bool.and_false, Bool.false_and, Nat.reduceAdd, Nat.zero_add, Nat.add_zero, Nat.reduceEqDiff, if_true, if_false, reduceIte]))
    | (show SQ _ _ _ _ _ _ _ _; apply q_gs; exact rfl; exact rfl; exact rfl; exact rfl; all_goals intro h)
    | (show AW _ _ _ _ _ _ _ _; first | refine aw_region ?_ | (refine aw_seqk ?_; intro K hK) | refine aw_block ?_ | (apply aw_cond_t; exact rfl; exact rfl) | (apply aw_cond_f; exact rfl; exact rfl) | refine aw_skip ?_ | (apply aw_ite; exact rfl; all_goals intro h))
    | refine thn_n ?_
    | (refine hK _ _ _ ?_; clear hK K)
    | refine inb_n ?_
    | (show SQ _ _ _ _ _ _ _ _; apply q_farOk; exact rfl; exact rfl; exact rfl; (try simp only [put, rowsOf, plR, List.all_cons, selE, ovr, setH, del, cellsA, splice, isV, List.nil_append, List.cons_append, List.map_cons, List.map_nil, List.length_cons, List.length_nil, List.set_cons_zero, List.set_cons_succ, List.take_succ_cons, List.take_zero, List.take_nil, List.drop_succ_cons, List.drop_zero, List.drop_nil, List.append_nil, List.all_cons, List.all_nil, Bool.and_true, Bool.true_and, Bool.and_false, Bool.false_and, Nat.reduceAdd, Nat.zero_add, Nat.add_zero, Nat.reduceEqDiff, if_true, if_false, reduceIte]))
    | (show SQ _ _ _ _ _ _ _ _; apply q_farPut; exact rfl; exact rfl; exact rfl; exact rfl; exact rfl; exact rfl; (try simp only [put, rowsOf, plR, List.all_cons, selE, ovr, setH, del, cellsA, splice, isV, List.nil_append, List.cons_append, List.map_cons, List.map_nil, List.length_cons, List.length_nil, List.set_cons_zero, List.set_cons_succ, List.take_succ_cons, List.take_zero, List.take_nil, List.drop_succ_cons, List.drop_zero, List.drop_nil, List.append_nil, List.all_cons, List.all_nil, Bool.and_true, Bool.true_and, Bool.and_false, Bool.false_and, Nat.reduceAdd, Nat.zero_add, Nat.add_zero, Nat.reduceEqDiff, if_true, if_false, reduceIte])))); all_goals (repeat (clear hK K)))
        all_goals first
          | (rcases hcs with ⟨g1, g2⟩ | ⟨g1, g2⟩
             · refine ⟨2, id, by omega, by omega, ?_⟩
               (try dsimp only); rw [g2, ← hw2]; exact ⟨by (repeat (refine ⟨by first | exact lk_i rfl rfl | exact lk_d rfl rfl | exact lk_v rfl rfl | exact lk_r rfl rfl rfl | exact lk_om rfl rfl rfl rfl | exact lk_g rfl rfl (by simp only [renL, renA]) rfl | exact lk_v rfl (by (try dsimp only); first | rfl | assumption | (simp; done)), ?_⟩)); exact trivial, by (repeat (refine ⟨by first | exact ⟨rfl, rfl, rfl⟩, ?_⟩)); exact trivial, by rfl, by exact pin_0⟩
             · exfalso; simp_all; done)
          | (rcases hcs with ⟨g1, g2⟩ | ⟨g1, g2⟩
             · exfalso; simp_all; done
             · refine ⟨2, id, by omega, by omega, ?_⟩
               (try dsimp only); rw [g2, ← hw2]; exact ⟨by (repeat (refine ⟨by first | exact lk_i rfl rfl | exact lk_d rfl rfl | exact lk_v rfl rfl | exact lk_r rfl rfl rfl | exact lk_om rfl rfl rfl rfl | exact lk_g rfl rfl (by simp only [renL, renA]) rfl, ?_⟩)); exact trivial, by (repeat (refine ⟨by first | exact ⟨rfl, rfl, rfl⟩, ?_⟩)); exact trivial, by rfl, by exact pin_0⟩)
      | 2, _ =>
        have b2 : decide (((2 : Nat) : Int) < 2) = false := by decide
        ((repeat' (first
    | (show SQ _ _ _ _ _ _ _ _; first | apply sq_nil | (apply q_move; exact rfl; exact rfl) | (apply q_add; exact rfl; exact rfl; exact rfl) | (apply q_lss; exact rfl; exact rfl; exact rfl))
    | (show AW _ _ _ _ _ _ _ _; first | refine aw_region ?_ | (refine aw_seqk ?_; intro K hK) | (apply aw_cond_f; exact rfl; exact rfl) | refine aw_exit ?_)
    | refine thn_n ?_
    | (refine hK _ _ _ ?_; clear hK K)
    | refine thn_e ?_
    | refine inb_same ?_
    | refine inb_n ?_
    | (clear hK K; refine hK _ _ _ ?_; clear hK K))); all_goals (repeat (clear hK K)))
        all_goals (refine ⟨i + 1, id, c1, by omega, ?_⟩; (try dsimp only); rw [hnx, ← hw1]; exact ⟨by (repeat (refine ⟨by first | exact lk_i rfl rfl | exact lk_d rfl rfl | exact lk_v rfl rfl | exact lk_r rfl rfl rfl | exact lk_om rfl rfl rfl rfl, ?_⟩)); exact trivial, by (repeat (refine ⟨by first | exact ⟨rfl, rfl, rfl⟩, ?_⟩)); exact trivial, by rfl, by exact pin_0⟩)
      | q + 3, hq => exact absurd hq (by omega)
    · have b1 : decide ((i : Int) < (ls.length : Int)) = false := by simpa using c1
      obtain rfl : i = ls.length := by omega
      rw [farF] at hR
      generalize fpass ls (F, false) ls.length = st at hS hR ⊢
      ((repeat' (first
    | (show SQ _ _ _ _ _ _ _ _; first | apply sq_nil | (apply q_lss; exact rfl; exact rfl; exact rfl))
    | (show AW _ _ _ _ _ _ _ _; first | refine aw_region ?_ | (refine aw_seqk ?_; intro K hK) | (apply aw_cond_f; exact rfl; exact (by assumption)) | refine aw_exit ?_)
    | refine thn_n ?_
    | (refine hK _ _ _ ?_; clear hK K)
    | refine thn_e ?_
    | refine inb_same ?_
    | refine inb_n ?_)); all_goals (repeat (clear hK K)))
      all_goals
        refine ⟨st, id, ⟨hS.good, fun hb => ⟨q1, by have := hS.up hb; omega, by rw [if_pos hb] at hR; exact hR⟩, fun hb => by rw [if_neg (by simp [hb])] at hR; exact hR⟩, ?_, ⟨by (repeat (refine ⟨by first | exact lk_v rfl rfl | exact lk_r rfl rfl rfl | exact lk_om rfl rfl rfl rfl, ?_⟩)); exact trivial, by (repeat (refine ⟨by first | exact ⟨rfl, rfl, rfl⟩, ?_⟩)); exact trivial, by rfl, by exact pin_0⟩⟩
        cases hb : st.2 with
        | true => have := hS.up hb; simp only [if_true]; omega
        | false => simp
end Go.Proofs.Ytglfcaioapdiaaa.Bk

namespace Go.Proofs.Ytglfcaioapdiaaa.Bk
open Go Go.RowKit Go.Proofs.Ytglfcaioapdiaaa.Aw
set_option linter.unusedSimpArgs false
set_option linter.unusedVariables false
attribute [local irreducible] AW SQ Step RO RC DE Thn InB
theorem farEq_run (a b c d : Int) (w : World) : (Op.equalIn 10000 117 (.agg ([Value.int .i64 a, Value.int .i64 b] : List Value).toArray) (.agg ([Value.int .i64 c, Value.int .i64 d] : List Value).toArray)).run Try.prog w = .ok (a == c && b == d) w := by
  have u3 := Try.underlying2
  have hS : Try.prog.underlying 117 = some (.struct (Try.prog.fieldsOf 117)) := by kernel_rfl
  have hp : Try.prog.stoodInHeld 117 = false := by kernel_rfl
  have hc : Try.prog.cellsOf 2 = 1 := by kernel_rfl
  rw [show (10000 : Nat) = 9999 + 1 from rfl, run_equalIn_agg w 9999 117 _ _ hS hp]
  simp only [Program.fieldsOf, Try.underlying117]
  go_simp
  by_cases h1 : a = c <;> by_cases h2 : b = d <;> simp [h1, h2]
section
variable {N n : Nat} {all : Array Oper} {l : List Oper} {G : Tp → Hp → Nat → Prop} {T : Tp} {H : Hp} {ty : TypeId} {pos : String} {after : Array Edge} {d : Nat}
theorem q_farEq {x y : Operand} {u : TypeId} {p q p' q' : Int} (hd : Nat.blt d N = true) (hx : evalA T x = some (.agg [.v (.int .i64 p), .v (.int .i64 q)])) (hy : evalA T y = some (.agg [.v (.int .i64 p'), .v (.int .i64 q')]))
    (h : SQ Try.prog N all l G ((d, .v (.bool (p == p' && q == q'))) :: T) H n) : SQ Try.prog N all (⟨some d, .binOp .eql 117 x y u, ty, pos, after, none⟩ :: l) G T H n :=
  sq_step rfl hd (s_eqA false rfl hx hy (by kernel_rfl) (farEq_run p q p' q') rfl rfl) h
end
set_option maxHeartbeats 4000000 in
theorem route_nil_ro (n : Int) (ls : List Ln) (frm to : Int) (hN : 1 ≤ n ∧ n ≤ 12) (hn : ls.length ≤ 1048576) (hL : LnsOk n ls) (hf : 0 ≤ frm ∧ frm < n) (ht : 0 ≤ to ∧ to < n) (hh : fh (farR n ls to) frm = false) (k : Nat) :
    RO Try.prog 50 [.agg (bkL n ls), .v (.int .i64 frm), .v (.int .i64 to)] k (.v (.slice none 0 0)) [] k := by
  have hT := farTo_rc n ls to hN hn hL ht
  refine RO.ofv' Try.func50 Try.ntmps50 rfl (goFn_of Try.func50 rfl (by kernel_rfl)) rfl rfl ?_
  unfold bkL at hT ⊢
  have b0 : (!fh (farR n ls to) frm) = true := by rw [hh]; rfl
  ((repeat' (first
    | (show SQ _ _ _ _ _ _ _ _; first | apply sq_nil | (apply q_move; exact rfl; exact rfl) | (apply q_assign; exact rfl; exact rfl) | (apply q_not; exact rfl; exact rfl) | (apply q_ext; exact rfl; exact rfl; exact rfl))
    | (show SQ _ _ _ _ _ _ _ _; (first | (apply q_ldap; exact rfl; exact rfl; exact (ty rfl); exact rfl; exact rfl; exact (by first | rfl | assumption | ((try simp only [Nat.zero_add]); refine List.getElem?_set_self ?_; (try simp only [List.length_set]); assumption)); exact rfl) | (apply q_box; exact rfl; exact rfl; exact rfl) | (apply q_alloc; exact rfl; exact (ty rfl); exact rfl; exact rfl) | (apply q_store; exact rfl; exact rfl; exact (ty rfl); exact rfl; exact (by first | rfl | assumption | ((try simp only [Nat.zero_add]); refine List.getElem?_set_self ?_; (try simp only [List.length_set]); assumption)); exact rfl; exact rfl; exact rfl) | (apply q_callC; exact rfl; exact rfl; exact rfl; exact hT _; (focus ((repeat (first | exact trivial | refine ⟨by first | exact rfl | assumption, ?_⟩)); done)); skip)); (try simp only [put, rowsOf, plR, List.all_cons, selE, ovr, setH, del, cellsA, splice, isV, List.nil_append, List.cons_append, List.map_cons, List.map_nil, List.length_cons, List.length_nil, List.set_cons_zero, List.set_cons_succ, List.take_succ_cons, List.take_zero, List.take_nil, List.drop_succ_cons, List.drop_zero, List.drop_nil, List.append_nil, List.all_cons, List.all_nil, Bool.and_true, Bool.true_and, Bool.and_false, Bool.false_and, Nat.reduceAdd, Nat.zero_add, Nat.add_zero, Nat.reduceEqDiff, if_true, if_false, reduceIte]))
    | (show AW _ _ _ _ _ _ _ _; first | refine aw_region ?_ | (refine aw_seqk ?_; intro K hK) | (apply aw_cond_t; exact rfl; exact (by assumption)) | refine aw_ret ?_)
    | refine thn_n ?_
    | (refine hK _ _ _ ?_; clear hK K)
    | refine thn_r ?_
    | (show SQ _ _ _ _ _ _ _ _; apply q_farOk; exact rfl; exact rfl; exact rfl; (try simp only [put, rowsOf, plR, List.all_cons, selE, ovr, setH, del, cellsA, splice, isV, List.nil_append, List.cons_append, List.map_cons, List.map_nil, List.length_cons, List.length_nil, List.set_cons_zero, List.set_cons_succ, List.take_succ_cons, List.take_zero, List.take_nil, List.drop_succ_cons, List.drop_zero, List.drop_nil, List.append_nil, List.all_cons, List.all_nil, Bool.and_true, Bool.true_and, Bool.and_false, Bool.false_and, Nat.reduceAdd, Nat.zero_add, Nat.add_zero, Nat.reduceEqDiff, if_true, if_false, reduceIte])))); all_goals (repeat (clear hK K)))
  all_goals exact fin_r (fin_v (.r1 _ _ (.tmp _ _ rfl)))
set_option maxHeartbeats 4000000 in
theorem route_some_ro (n : Int) (ls : List Ln) (frm to : Int) (hN : 1 ≤ n ∧ n ≤ 12) (hn : ls.length ≤ 1048576) (hL : LnsOk n ls) (hf : 0 ≤ frm ∧ frm < n) (ht : 0 ≤ to ∧ to < n) (hh : fh (farR n ls to) frm = true) (k : Nat) :
    RO Try.prog 50 [.agg (bkL n ls), .v (.int .i64 frm), .v (.int .i64 to)] k (.sl k 0 ((fl (farR n ls to) frm).toNat + 1)) [(k, ⟨2, 1, true, (rlist (farR n ls to) n ls frm (fl (farR n ls to) frm).toNat).map inL⟩)] (k + 1) := by
  have hT := farTo_rc n ls to hN hn hL ht
  have hFW := FW.of (to := to) hL hN.2 ht
  refine RO.ofm (.sl 0 0 ((fl (farR n ls to) frm).toNat + 1)) ([(0, ⟨2, 1, true, (rlist (farR n ls to) n ls frm (fl (farR n ls to) frm).toNat).map inL⟩)]) 1 Try.func50 Try.ntmps50 rfl (goFn_of Try.func50 rfl (by kernel_rfl)) rfl rfl (by simp [renA, renL]) (by simp [shH, renB]) rfl ?_
  unfold bkL at hT ⊢
  generalize farR n ls to = F at *
  have b0 : (!fh F frm) = false := by rw [hh]; rfl
  have hbd := hFW.bd hh
  ((repeat' (first
    | (show SQ _ _ _ _ _ _ _ _; first | apply sq_nil | (apply q_move; exact rfl; exact rfl) | (apply q_assign; exact rfl; exact rfl) | (apply q_not; exact rfl; exact rfl) | (apply q_ext; exact rfl; exact rfl; exact rfl))
    | (show SQ _ _ _ _ _ _ _ _; (first | (apply q_ldap; exact rfl; exact rfl; exact (ty rfl); exact rfl; exact rfl; exact (by first | rfl | assumption | ((try simp only [Nat.zero_add]); refine List.getElem?_set_self ?_; (try simp only [List.length_set]); assumption)); exact rfl) | (apply q_box; exact rfl; exact rfl; exact rfl) | (apply q_alloc; exact rfl; exact (ty rfl); exact rfl; exact rfl) | (apply q_store; exact rfl; exact rfl; exact (ty rfl); exact rfl; exact (by first | rfl | assumption | ((try simp only [Nat.zero_add]); refine List.getElem?_set_self ?_; (try simp only [List.length_set]); assumption)); exact rfl; exact rfl; exact rfl) | (apply q_buildn; exact rfl; exact (ty rfl); exact rfl; exact rfl; exact rfl; exact rfl; exact rfl; exact rfl; exact rfl) | (apply q_callC; exact rfl; exact rfl; exact rfl; exact hT _; (focus ((repeat (first | exact trivial | refine ⟨by first | exact rfl | assumption, ?_⟩)); done)); skip)); (try simp only [put, rowsOf, plR, List.all_cons, selE, ovr, setH, del, cellsA, splice, isV, List.nil_append, List.cons_append, List.map_cons, List.map_nil, List.length_cons, List.length_nil, List.set_cons_zero, List.set_cons_succ, List.take_succ_cons, List.take_zero, List.take_nil, List.drop_succ_cons, List.drop_zero, List.drop_nil, List.append_nil, List.all_cons, List.all_nil, Bool.and_true, Bool.true_and, Bool.and_false, Bool.false_and, Nat.reduceAdd, Nat.zero_add, Nat.add_zero, Nat.reduceEqDiff, if_true, if_false, reduceIte]))
    | (show AW _ _ _ _ _ _ _ _; first | refine aw_region ?_ | (refine aw_seqk ?_; intro K hK) | refine aw_block ?_ | (apply aw_cond_f; exact rfl; exact (by assumption)) | refine aw_skip ?_)
    | refine thn_n ?_
    | (refine hK _ _ _ ?_; clear hK K)
    | (show SQ _ _ _ _ _ _ _ _; apply q_farOk; exact rfl; exact rfl; exact rfl; (try simp only [put, rowsOf, plR, List.all_cons, selE, ovr, setH, del, cellsA, splice, isV, List.nil_append, List.cons_append, List.map_cons, List.map_nil, List.length_cons, List.length_nil, List.set_cons_zero, List.set_cons_succ, List.take_succ_cons, List.take_zero, List.take_nil, List.drop_succ_cons, List.drop_zero, List.drop_nil, List.append_nil, List.all_cons, List.all_nil, Bool.and_true, Bool.true_and, Bool.and_false, Bool.false_and, Nat.reduceAdd, Nat.zero_add, Nat.add_zero, Nat.reduceEqDiff, if_true, if_false, reduceIte])))); all_goals (repeat (clear hK K)))
  refine aw_loop (ρ := fun j => [0, 1, 3].getD j 0) (ι := Nat) (fun k => ([(11, .v (.int .i64 (gat F n ls frm k))), (10, .sl 2 0 (k + 1)), (7, .om 1 (farD F)), (3, .ptr 0 0 0), (2, .v (.int .i64 to))], [(0, ⟨31, 2, false, [[.v (.int .i64 n), .dsl 4 (ls.map lnL)]]⟩), (2, ⟨2, 1, true, (rlist F n ls frm k).map inL⟩)], 3))
    (fun k => (k : Int) ≤ fl F frm) (fun k => (fl F frm).toNat - k) 0 (by omega) ⟨by (repeat (refine ⟨by first | exact lk_i rfl rfl | exact lk_r rfl rfl rfl | exact lk_s rfl rfl rfl rfl | exact lk_om rfl rfl rfl rfl, ?_⟩)); exact trivial, by (repeat (refine ⟨by first | exact ⟨rfl, rfl, rfl⟩, ?_⟩)); exact trivial, by rfl, by exact pin_0⟩ ?_
  intro k hk
  obtain ⟨g1, g2⟩ := hFW.at hh k hk
  have hrl := rlist_len F n ls frm k
  by_cases c1 : (k : Int) < fl F frm
  · have b1 : (gat F n ls frm k != to) = true := by have := hFW.ne g1 (by omega); simpa using this
    have hrs := rlist_succ F n ls frm k
    have hga : gat F n ls frm (k + 1) = gmin F n (gat F n ls frm k) ls ls.length := rfl
    rw [hga] at hrs
    generalize rlist F n ls frm k = rk at *
    generalize gat F n ls frm k = x at *
    ((repeat' (first
    | (show SQ _ _ _ _ _ _ _ _; first | apply sq_nil | (apply q_move; exact rfl; exact rfl) | (apply q_assign; exact rfl; exact rfl) | (apply q_fieldAddr; exact rfl; exact rfl; exact (ty rfl); exact rfl; exact rfl; exact rfl; exact rfl) | (apply q_lend; exact rfl; exact rfl; exact (ty rfl); exact rfl) | (apply q_neq; exact rfl; exact rfl; exact rfl) | (apply q_ld1p; exact rfl; exact rfl; exact (ty rfl); exact rfl; exact rfl; exact (by first | rfl | assumption | ((try simp only [Nat.zero_add]); refine List.getElem?_set_self ?_; (try simp only [List.length_set]); assumption)); exact rfl))
    | (show AW _ _ _ _ _ _ _ _; first | refine aw_region ?_ | (refine aw_seqk ?_; intro K hK) | refine aw_block ?_ | (apply aw_cond_t; exact rfl; exact (by assumption)) | refine aw_skip ?_)
    | refine thn_n ?_
    | (refine hK _ _ _ ?_; clear hK K))); all_goals (repeat (clear hK K)))
    refine aw_loop (ρ := id) (ι := Nat) (fun i => ([(40, .v (.int .i64 i)), (39, .v (.int .i64 ls.length)), (38, .dsl 4 (ls.map lnL)), (12, .v (.int .i64 (gmin F n x ls i))), (11, .v (.int .i64 x)), (10, .sl 2 0 (k + 1)), (7, .om 1 (farD F)), (3, .ptr 0 0 0), (2, .v (.int .i64 to))], [(0, ⟨31, 2, false, [[.v (.int .i64 n), .dsl 4 (ls.map lnL)]]⟩), (2, ⟨2, 1, true, rk.map inL⟩)], 3))
      (fun i => i ≤ ls.length) (fun i => ls.length - i) 0 (Nat.zero_le _) ⟨by (repeat (refine ⟨by first | exact lk_i rfl rfl | exact lk_i rfl (by (try dsimp only); first | rfl | omega | (rw [IntWalk.i64_in _ (by omega)]; first | rfl | omega | (push_cast; omega)) | (simp; done) | (simp; omega)) | exact lk_d rfl rfl | exact lk_r rfl rfl rfl | exact lk_s rfl rfl rfl rfl | exact lk_om rfl rfl rfl rfl, ?_⟩)); exact trivial, by (repeat (refine ⟨by first | exact ⟨rfl, rfl, rfl⟩, ?_⟩)); exact trivial, by rfl, by exact pin_0⟩ ?_
    intro i hi
    by_cases c2 : i < ls.length
    · have b2 : decide ((i : Int) < (ls.length : Int)) = true := by simpa using c2
      have hrow : (ls.map lnL)[((i : Int)).toNat]? = some (lnL ls[i]) := by simp [c2]
      rw [lnL_eq] at hrow
      have hgs := gmin_succ (F := F) (n := n) (x := x) c2
      have hw1 : IntKind.i64.wrap ((i : Int) + 1) = ((i + 1 : Nat) : Int) := by rw [IntWalk.i64_in _ (by omega)]; omega
      have hmem := List.getElem_mem c2
      have hO := other_ro x ls[i]
      rw [lnL_eq] at hO
      generalize ls[i] = l at hrow hgs hmem hO
      have hb1 := hFW.bc (othV x l)
      have hb2 := hL l hmem
      have hwc : IntKind.i64.wrap (fc F (othV x l) + l.o) = fc F (othV x l) + l.o := IntWalk.i64_in _ (by omega)
      have hwl : IntKind.i64.wrap (fl F (othV x l) + 1) = fl F (othV x l) + 1 := IntWalk.i64_in _ (by omega)
      unfold gst gok at hgs
      rw [← hwc, ← hwl] at hgs
      clear hwc hwl hb1 hb2
      generalize gmin F n x ls i = b at hgs ⊢
      have hmn : mnI b (othV x l) = min b (othV x l) := by unfold mnI; split <;> omega
      rw [← hmn] at hgs
      clear hmn
      ((repeat' (first
    | (show SQ _ _ _ _ _ _ _ _; first | apply sq_nil | (apply q_move; exact rfl; exact rfl) | (apply q_assign; exact rfl; exact rfl) | (apply q_pick_t; exact rfl; exact rfl; exact rfl; exact (by first | assumption | exact rfl)) | (apply q_pick_f; exact rfl; exact rfl; exact rfl; exact (by first | assumption | exact rfl)) | (apply q_fieldAddr; exact rfl; exact rfl; exact (ty rfl); exact rfl; exact rfl; exact rfl; exact rfl) | (apply q_field1; exact rfl; exact rfl; exact (ty rfl); exact rfl; exact rfl; exact rfl) | (apply q_ext; exact rfl; exact rfl; exact rfl) | (apply q_min; exact rfl; exact rfl; exact rfl) | (apply q_add; exact rfl; exact rfl; exact rfl) | (apply q_lss; exact rfl; exact rfl; exact rfl) | (apply q_ixd; exact rfl; exact rfl; exact rfl; exact (ty rfl); exact rfl; exact (by first | omega | (simp; done) | (simp; omega)); exact (by first | omega | (simp; done) | (simp; omega)); exact (by first | rfl | assumption)) | (apply q_ld1p; exact rfl; exact rfl; exact (ty rfl); exact rfl; exact rfl; exact (by first | rfl | assumption | ((try simp only [Nat.zero_add]); refine List.getElem?_set_self ?_; (try simp only [List.length_set]); assumption)); exact rfl) | (apply q_build; exact rfl; exact (ty rfl); exact rfl; exact rfl; exact rfl) | (apply q_g; exact rfl; exact rfl; exact rfl; exact (by assumption)) | (apply q_s; exact rfl; exact rfl; exact rfl; exact (by assumption); exact rfl))
    | (show SQ _ _ _ _ _ _ _ _; (first | (apply q_ldad; exact rfl; exact rfl; exact (ty rfl); exact rfl; exact rfl) | (apply q_ldap; exact rfl; exact rfl; exact (ty rfl); exact rfl; exact rfl; exact (by first | rfl | assumption | ((try simp only [Nat.zero_add]); refine List.getElem?_set_self ?_; (try simp only [List.length_set]); assumption)); exact rfl) | (apply q_alloc; exact rfl; exact (ty rfl); exact rfl; exact rfl) | (apply q_store; exact rfl; exact rfl; exact (ty rfl); exact rfl; exact (by first | rfl | assumption | ((try simp only [Nat.zero_add]); refine List.getElem?_set_self ?_; (try simp only [List.length_set]); assumption)); exact rfl; exact rfl; exact rfl) | (apply q_callU; exact rfl; exact rfl; exact rfl; exact FzL.of rfl; exact hO _)); (try simp only [put, rowsOf, plR, List.all_cons, selE, ovr, setH, del, cellsA, splice, isV, List.nil_append, List.cons_append, List.map_cons, List.map_nil, List.length_cons, List.length_nil, List.set_cons_zero, List.set_cons_succ, List.take_succ_cons, List.take_zero, List.take_nil, List.drop_succ_cons, List.drop_zero, List.drop_nil, List.append_nil, List.all_cons, List.all_nil, Bool.and_true, Bool.true_and, Bool.and_false, Bool.false_and, Nat.reduceAdd, Nat.zero_add, Nat.add_zero, Nat.reduceEqDiff, if_true, if_false, reduceIte]))
    | (show SQ _ _ _ _ _ _ _ _; apply q_gs; exact rfl; exact rfl; exact rfl; exact rfl; all_goals intro h)
    | (show AW _ _ _ _ _ _ _ _; first | refine aw_region ?_ | (refine aw_seqk ?_; intro K hK) | refine aw_block ?_ | (apply aw_cond_f; exact rfl; exact rfl) | (apply aw_cond_t; exact rfl; exact (by assumption)) | refine aw_skip ?_ | (apply aw_ite; exact rfl; all_goals intro h))
    | refine thn_n ?_
    | (refine hK _ _ _ ?_; clear hK K)
    | refine inb_n ?_
    | (show SQ _ _ _ _ _ _ _ _; apply q_farEq; exact rfl; exact rfl; exact rfl)
    | (show SQ _ _ _ _ _ _ _ _; apply q_far; exact rfl; exact rfl; exact rfl; (try simp only [put, rowsOf, plR, List.all_cons, selE, ovr, setH, del, cellsA, splice, isV, List.nil_append, List.cons_append, List.map_cons, List.map_nil, List.length_cons, List.length_nil, List.set_cons_zero, List.set_cons_succ, List.take_succ_cons, List.take_zero, List.take_nil, List.drop_succ_cons, List.drop_zero, List.drop_nil, List.append_nil, List.all_cons, List.all_nil, Bool.and_true, Bool.true_and, Bool.and_false, Bool.false_and, Nat.reduceAdd, Nat.zero_add, Nat.add_zero, Nat.reduceEqDiff, if_true, if_false, reduceIte])))); all_goals (repeat (clear hK K)))
      all_goals
        refine ⟨i + 1, id, c2, by omega, ?_⟩
        (try dsimp only)
        clear hrow hO hT b2 hi
        by_cases hc : (othB x l && (IntKind.i64.wrap (fc F (othV x l) + l.o) == fc F x && IntKind.i64.wrap (fl F (othV x l) + 1) == fl F x)) = true
        · rw [if_pos hc] at hgs
          first
            | (exfalso; clear hgs g2; simp_all; done)
            | (rw [hgs, ← hw1]; exact ⟨by (repeat (refine ⟨by first | exact lk_i rfl rfl | exact lk_d rfl rfl | exact lk_r rfl rfl rfl | exact lk_s rfl rfl rfl rfl | exact lk_om rfl rfl rfl rfl, ?_⟩)); exact trivial, by (repeat (refine ⟨by first | exact ⟨rfl, rfl, rfl⟩, ?_⟩)); exact trivial, by rfl, by exact pin_0⟩)
        · rw [if_neg hc] at hgs
          first
            | (exfalso; clear hgs g2; simp_all; done)
            | (rw [hgs, ← hw1]; exact ⟨by (repeat (refine ⟨by first | exact lk_i rfl rfl | exact lk_d rfl rfl | exact lk_r rfl rfl rfl | exact lk_s rfl rfl rfl rfl | exact lk_om rfl rfl rfl rfl, ?_⟩)); exact trivial, by (repeat (refine ⟨by first | exact ⟨rfl, rfl, rfl⟩, ?_⟩)); exact trivial, by rfl, by exact pin_0⟩)
    · have b2 : decide ((i : Int) < (ls.length : Int)) = false := by simpa using c2
      obtain rfl : i = ls.length := by omega
      have hml : (rk.map inL).length = k + 1 := by rw [List.length_map, hrl]
      ((repeat' (first
    | (show SQ _ _ _ _ _ _ _ _; first | apply sq_nil | (apply q_move; exact rfl; exact rfl) | (apply q_assign; exact rfl; exact rfl) | (apply q_lss; exact rfl; exact rfl; exact rfl))
    | (show SQ _ _ _ _ _ _ _ _; (first | (apply q_buildn; exact rfl; exact (ty rfl); exact rfl; exact rfl; exact rfl; exact rfl; exact rfl; exact rfl; exact rfl) | (apply q_apo_s; exact rfl; exact rfl; exact rfl; exact (ty rfl); exact rfl; exact rfl; exact (by first | omega | (simp; done) | (simp; omega)); exact (by first | exact List.take_of_length_le (by first | omega | (simp; done) | (simp; omega)) | rfl); exact (ty rfl); exact rfl; exact rfl; exact (by first | omega | (simp; done) | (simp; omega)); exact (by first | exact dt_full (by first | omega | (simp; done) | (simp; omega)) | assumption | rfl); exact rfl; exact (by first | omega | (simp; done) | (simp; omega)); exact (by first | omega | (simp; done) | (simp; omega)); exact (by first | assumption | exact rfl))); (try simp only [put, rowsOf, plR, List.all_cons, selE, ovr, setH, del, cellsA, splice, isV, List.nil_append, List.cons_append, List.map_cons, List.map_nil, List.length_cons, List.length_nil, List.set_cons_zero, List.set_cons_succ, List.take_succ_cons, List.take_zero, List.take_nil, List.drop_succ_cons, List.drop_zero, List.drop_nil, List.append_nil, List.all_cons, List.all_nil, Bool.and_true, Bool.true_and, Bool.and_false, Bool.false_and, Nat.reduceAdd, Nat.zero_add, Nat.add_zero, Nat.reduceEqDiff, if_true, if_false, reduceIte]))
    | (show AW _ _ _ _ _ _ _ _; first | refine aw_region ?_ | (refine aw_seqk ?_; intro K hK) | (apply aw_cond_f; exact rfl; exact (by assumption)) | refine aw_exit ?_)
    | refine thn_n ?_
    | (refine hK _ _ _ ?_; clear hK K)
    | refine thn_e ?_
    | refine inb_same ?_
    | refine inb_n ?_
    | (clear hK K; refine hK _ _ _ ?_; clear hK K))); all_goals (repeat (clear hK K)))
      all_goals
        refine ⟨k + 1, fun j => [0, 1, 4].getD j 0, by omega, by omega, ?_⟩
        (try dsimp only)
        rw [hrs, hga, List.map_append]
        exact ⟨by (repeat (refine ⟨by first | exact lk_i rfl rfl | exact lk_r rfl rfl rfl | exact lk_s rfl rfl rfl rfl | exact lk_om rfl rfl rfl rfl, ?_⟩)); exact trivial, by (repeat (refine ⟨by first | exact ⟨rfl, rfl, rfl⟩, ?_⟩)); exact trivial, by rfl, by exact pin_0⟩
  · have hkk : k = (fl F frm).toNat := by omega
    subst hkk
    have he := hFW.zero g1 (by omega)
    have b1 : (gat F n ls frm (fl F frm).toNat != to) = false := by simpa using he
    generalize rlist F n ls frm (fl F frm).toNat = rk at *
    ((repeat' (first
    | (show SQ _ _ _ _ _ _ _ _; first | apply sq_nil | (apply q_move; exact rfl; exact rfl) | (apply q_assign; exact rfl; exact rfl) | (apply q_neq; exact rfl; exact rfl; exact rfl))
    | (show AW _ _ _ _ _ _ _ _; first | refine aw_region ?_ | (refine aw_seqk ?_; intro K hK) | (apply aw_cond_f; exact rfl; exact (by assumption)) | refine aw_ret ?_ | refine aw_exit ?_)
    | refine thn_n ?_
    | (refine hK _ _ _ ?_; clear hK K)
    | refine thn_e ?_
    | refine inb_same ?_
    | (clear hK K; refine hK _ _ _ ?_; clear hK K))); all_goals (repeat (clear hK K)))
    all_goals exact fin_r (fin_m rfl rfl _ _ rfl rfl)
end Go.Proofs.Ytglfcaioapdiaaa.Bk

namespace Go.Proofs.Ytglfcaioapdiaaa.Bk
set_option linter.unusedSimpArgs false
set_option linter.unusedVariables false
def Ed (p : List Ln) (x y : Int) : Prop := ∃ l ∈ p, linkP x y l = true
inductive Cn (p : List Ln) (x : Int) : Int → Prop
  | refl : Cn p x x
  | step {y z : Int} : Cn p x y → Ed p y z → Cn p x z
theorem Ed.symm {p : List Ln} {x y : Int} (h : Ed p x y) : Ed p y x := by
  obtain ⟨l, hl, h⟩ := h; exact ⟨l, hl, linkP_symm h⟩
theorem Cn.trans {p : List Ln} {x y z : Int} (h : Cn p x y) (g : Cn p y z) : Cn p x z := by
  induction g with
  | refl => exact h
  | step _ e ih => exact ih.step e
theorem Cn.symm {p : List Ln} {x y : Int} (h : Cn p x y) : Cn p y x := by
  induction h with
  | refl => exact .refl
  | step _ e ih => exact (Cn.step .refl e.symm).trans ih
theorem Cn.mono {p q : List Ln} (hpq : ∀ l ∈ p, l ∈ q) {x y : Int} (h : Cn p x y) : Cn q x y := by
  induction h with
  | refl => exact .refl
  | step _ e ih => obtain ⟨l, hl, e⟩ := e; exact ih.step ⟨l, hpq l hl, e⟩
end Go.Proofs.Ytglfcaioapdiaaa.Bk

namespace Go.Proofs.Ytglfcaioapdiaaa.Bk
open Go Go.RowKit Go.Proofs.Ytglfcaioapdiaaa.Aw
set_option linter.unusedSimpArgs false
set_option linter.unusedVariables false
attribute [local irreducible] AW SQ Step RO RC DE Thn InB
theorem bkB_in {n : Int} {ls : List Ln} (h : bkB n ls = true) : (1 ≤ n ∧ n ≤ 12) ∧ ∀ l ∈ ls, 0 ≤ l.a ∧ l.a < n ∧ 0 ≤ l.b ∧ l.b < n := by
  simp only [bkB, Bool.and_eq_true, decide_eq_true_eq] at h
  refine ⟨by simpa [inB] using h.1.1, fun l hl => ?_⟩
  obtain ⟨j, hj, rfl⟩ := List.getElem_of_mem hl
  have := List.all_eq_true.1 h.2 j (List.mem_range.2 hj)
  simp only [goodL, sOk, inB, Bool.and_eq_true, decide_eq_true_eq, List.getD, List.getElem?_eq_getElem hj, Option.getD_some] at this
  omega
end Go.Proofs.Ytglfcaioapdiaaa.Bk

namespace Go.Proofs.Ytglfcaioapdiaaa.Bk
open Go Go.RowKit Go.Proofs.Ytglfcaioapdiaaa.Aw
set_option linter.unusedSimpArgs false
set_option linter.unusedVariables false
attribute [local irreducible] AW SQ Step RO RC DE Thn InB
def codeV (n : Int) (ls : List Ln) (xs : List Int) : Int := if bkB n ls = true then (if (xs.any fun x => !inB x 0 (n - 1)) = true then 2 else 0) else 1
set_option maxHeartbeats 4000000 in
theorem code_ro (n : Int) (ls : List Ln) (xs : List Int) (hn : ls.length ≤ 1048576) (hx : xs.length ≤ 1048576) (k : Nat) : RO Try.prog 49 [.agg (bkL n ls), .dsl 1 (xs.map inL)] k (.v (.int .i64 (codeV n ls xs))) [] k := by
  have hV := ValidBackhaul_ro n ls hn
  unfold bkL at hV ⊢
  refine RO.ofv' Try.func49 Try.ntmps49 rfl (goFn_of Try.func49 rfl (by kernel_rfl)) rfl rfl ?_
  cases hb : bkB n ls with
  | false =>
    have b1 : (!bkB n ls) = true := by rw [hb]; rfl
    ((repeat' (first
    | (show SQ _ _ _ _ _ _ _ _; first | apply sq_nil | (apply q_assign; exact rfl; exact rfl) | (apply q_not; exact rfl; exact rfl))
    | (show SQ _ _ _ _ _ _ _ _; (first | (apply q_ldap; exact rfl; exact rfl; exact (ty rfl); exact rfl; exact rfl; exact (by first | rfl | assumption | ((try simp only [Nat.zero_add]); refine List.getElem?_set_self ?_; (try simp only [List.length_set]); assumption)); exact rfl) | (apply q_box; exact rfl; exact rfl; exact rfl) | (apply q_callU; exact rfl; exact rfl; exact rfl; exact FzL.of rfl; exact hV _)); (try simp only [put, rowsOf, plR, List.all_cons, selE, ovr, setH, del, cellsA, splice, isV, List.nil_append, List.cons_append, List.map_cons, List.map_nil, List.length_cons, List.length_nil, List.set_cons_zero, List.set_cons_succ, List.take_succ_cons, List.take_zero, List.take_nil, List.drop_succ_cons, List.drop_zero, List.drop_nil, List.append_nil, List.all_cons, List.all_nil, Bool.and_true, Bool.true_and, Bool.and_false, Bool.false_and, Nat.reduceAdd, Nat.zero_add, Nat.add_zero, Nat.reduceEqDiff, if_true, if_false, reduceIte]))
    | (show AW _ _ _ _ _ _ _ _; first | refine aw_region ?_ | (refine aw_seqk ?_; intro K hK) | refine aw_block ?_ | (apply aw_cond_t; exact rfl; exact (by assumption)) | refine aw_ret ?_)
    | refine thn_n ?_
    | (refine hK _ _ _ ?_; clear hK K)
    | refine thn_r ?_
    | refine inb_r ?_)); all_goals (repeat (clear hK K)))
    all_goals refine fin_r (fin_i rfl ?_)
    simp [codeV, hb]
  | true =>
    have b1 : (!bkB n ls) = false := by rw [hb]; rfl
    have hN := (bkB_in hb).1
    have hw : IntKind.i64.wrap (n - 1) = n - 1 := IntWalk.i64_in _ (by omega)
    have hA := allWithin_ro xs (xs.map inL) 0 (IntKind.i64.wrap (n - 1)) rfl hx
    ((repeat' (first
    | (show SQ _ _ _ _ _ _ _ _; first | apply sq_nil | (apply q_move; exact rfl; exact rfl) | (apply q_assign; exact rfl; exact rfl) | (apply q_fieldAddr; exact rfl; exact rfl; exact (ty rfl); exact rfl; exact rfl; exact rfl; exact rfl) | (apply q_not; exact rfl; exact rfl) | (apply q_sub; exact rfl; exact rfl; exact rfl) | (apply q_ld1p; exact rfl; exact rfl; exact (ty rfl); exact rfl; exact rfl; exact (by first | rfl | assumption | ((try simp only [Nat.zero_add]); refine List.getElem?_set_self ?_; (try simp only [List.length_set]); assumption)); exact rfl))
    | (show SQ _ _ _ _ _ _ _ _; (first | (apply q_ldap; exact rfl; exact rfl; exact (ty rfl); exact rfl; exact rfl; exact (by first | rfl | assumption | ((try simp only [Nat.zero_add]); refine List.getElem?_set_self ?_; (try simp only [List.length_set]); assumption)); exact rfl) | (apply q_box; exact rfl; exact rfl; exact rfl) | (apply q_callU; exact rfl; exact rfl; exact rfl; exact FzL.of rfl; exact hV _) | (apply q_callU; exact rfl; exact rfl; exact rfl; exact FzL.of rfl; exact hA _)); (try simp only [put, rowsOf, plR, List.all_cons, selE, ovr, setH, del, cellsA, splice, isV, List.nil_append, List.cons_append, List.map_cons, List.map_nil, List.length_cons, List.length_nil, List.set_cons_zero, List.set_cons_succ, List.take_succ_cons, List.take_zero, List.take_nil, List.drop_succ_cons, List.drop_zero, List.drop_nil, List.append_nil, List.all_cons, List.all_nil, Bool.and_true, Bool.true_and, Bool.and_false, Bool.false_and, Nat.reduceAdd, Nat.zero_add, Nat.add_zero, Nat.reduceEqDiff, if_true, if_false, reduceIte]))
    | (show AW _ _ _ _ _ _ _ _; first | refine aw_region ?_ | (refine aw_seqk ?_; intro K hK) | refine aw_block ?_ | (apply aw_cond_f; exact rfl; exact (by assumption)) | refine aw_ret ?_ | refine aw_skip ?_ | (apply aw_ite; exact rfl; all_goals intro h))
    | refine thn_n ?_
    | (refine hK _ _ _ ?_; clear hK K)
    | refine thn_r ?_
    | refine inb_n ?_
    | refine inb_r ?_)); all_goals (repeat (clear hK K)))
    all_goals refine fin_r (fin_i rfl ?_)
    all_goals (rw [hw] at *; simp_all [codeV])
theorem codeV_two (n : Int) (ls : List Ln) (a b : Int) : codeV n ls [a, b] = if bkB n ls = true then (if inB a 0 (n - 1) && inB b 0 (n - 1) then 0 else 2) else 1 := by
  unfold codeV
  cases bkB n ls <;> cases h1 : inB a 0 (n - 1) <;> cases h2 : inB b 0 (n - 1) <;> simp [h1, h2]
set_option maxHeartbeats 4000000 in
theorem l25Ask_ro (n : Int) (ls : List Ln) (a b : Int) (hn : ls.length ≤ 1048576) (k : Nat) : RO Try.prog 45 [.dptr (bkL n ls), .v (.int .i64 a), .v (.int .i64 b)] k (.v (.int .i64 (codeV n ls [a, b]))) [] k := by
  have hV := l25Ok_ro n ls hn
  rw [codeV_two]
  unfold bkL at hV ⊢
  refine RO.ofv' Try.func45 Try.ntmps45 rfl (goFn_of Try.func45 rfl (by kernel_rfl)) rfl rfl ?_
  cases hb : bkB n ls with
  | false =>
    have b1 : (!bkB n ls) = true := by rw [hb]; rfl
    ((repeat' (first
    | (show SQ _ _ _ _ _ _ _ _; first | apply sq_nil | (apply q_move; exact rfl; exact rfl) | (apply q_assign; exact rfl; exact rfl) | (apply q_not; exact rfl; exact rfl))
    | (show SQ _ _ _ _ _ _ _ _; (first | (apply q_callU; exact rfl; exact rfl; exact rfl; exact FzL.of rfl; exact hV _)); (try simp only [put, rowsOf, plR, List.all_cons, selE, ovr, setH, del, cellsA, splice, isV, List.nil_append, List.cons_append, List.map_cons, List.map_nil, List.length_cons, List.length_nil, List.set_cons_zero, List.set_cons_succ, List.take_succ_cons, List.take_zero, List.take_nil, List.drop_succ_cons, List.drop_zero, List.drop_nil, List.append_nil, List.all_cons, List.all_nil, Bool.and_true, Bool.true_and, Bool.and_false, Bool.false_and, Nat.reduceAdd, Nat.zero_add, Nat.add_zero, Nat.reduceEqDiff, if_true, if_false, reduceIte]))
    | (show AW _ _ _ _ _ _ _ _; first | refine aw_region ?_ | (refine aw_seqk ?_; intro K hK) | (apply aw_cond_t; exact rfl; exact (by assumption)) | refine aw_ret ?_)
    | refine thn_n ?_
    | (refine hK _ _ _ ?_; clear hK K)
    | refine thn_r ?_)); all_goals (repeat (clear hK K)))
    all_goals exact fin_r (fin_i rfl (by simp))
  | true =>
    have b1 : (!bkB n ls) = false := by rw [hb]; rfl
    have hN := (bkB_in hb).1
    have hw : IntKind.i64.wrap (n - 1) = n - 1 := IntWalk.i64_in _ (by omega)
    ((repeat' (first
    | (show SQ _ _ _ _ _ _ _ _; first | apply sq_nil | (apply q_move; exact rfl; exact rfl) | (apply q_assign; exact rfl; exact rfl) | (apply q_pick_t; exact rfl; exact rfl; exact rfl; exact (by first | assumption | exact rfl)) | (apply q_pick_f; exact rfl; exact rfl; exact rfl; exact (by first | assumption | exact rfl)) | (apply q_fieldAddr; exact rfl; exact rfl; exact (ty rfl); exact rfl; exact rfl; exact rfl; exact rfl) | (apply q_nilc; exact rfl; exact rfl; exact rfl) | (apply q_not; exact rfl; exact rfl) | (apply q_sub; exact rfl; exact rfl; exact rfl) | (apply q_ld1d; exact rfl; exact rfl; exact (ty rfl); exact rfl; exact rfl) | (apply q_g; exact rfl; exact rfl; exact rfl; exact (by assumption)) | (apply q_s; exact rfl; exact rfl; exact rfl; exact (by assumption); exact rfl))
    | (show SQ _ _ _ _ _ _ _ _; (first | (apply q_callU; exact rfl; exact rfl; exact rfl; exact FzL.of rfl; exact hV _) | (apply q_callU; exact rfl; exact rfl; exact rfl; exact FzL.of rfl; exact l00In_ro _ _ _ _)); (try simp only [put, rowsOf, plR, List.all_cons, selE, ovr, setH, del, cellsA, splice, isV, List.nil_append, List.cons_append, List.map_cons, List.map_nil, List.length_cons, List.length_nil, List.set_cons_zero, List.set_cons_succ, List.take_succ_cons, List.take_zero, List.take_nil, List.drop_succ_cons, List.drop_zero, List.drop_nil, List.append_nil, List.all_cons, List.all_nil, Bool.and_true, Bool.true_and, Bool.and_false, Bool.false_and, Nat.reduceAdd, Nat.zero_add, Nat.add_zero, Nat.reduceEqDiff, if_true, if_false, reduceIte]))
    | (show SQ _ _ _ _ _ _ _ _; apply q_gs; exact rfl; exact rfl; exact rfl; exact rfl; all_goals intro h)
    | (show AW _ _ _ _ _ _ _ _; first | refine aw_region ?_ | (refine aw_seqk ?_; intro K hK) | (apply aw_cond_t; exact rfl; exact rfl) | (apply aw_cond_f; exact rfl; exact (by assumption)) | refine aw_ret ?_ | refine aw_skip ?_ | (apply aw_ite; exact rfl; all_goals intro h))
    | refine thn_n ?_
    | (refine hK _ _ _ ?_; clear hK K)
    | refine thn_r ?_)); all_goals (repeat (clear hK K)))
    all_goals refine fin_r (fin_i rfl ?_)
    all_goals (rw [hw] at *; simp_all)
set_option maxHeartbeats 4000000 in
theorem code2_ro (n : Int) (ls : List Ln) (a b : Int) (hn : ls.length ≤ 1048576) (k : Nat) : RO Try.prog 49 [.agg (bkL n ls), .dsl 1 [[.v (.int .i64 a)], [.v (.int .i64 b)]]] k (.v (.int .i64 (codeV n ls [a, b]))) [] k := code_ro n ls [a, b] hn (by simp) k
theorem codeV_ok {n : Int} {ls : List Ln} {a b : Int} (h : codeV n ls [a, b] = 0) : (1 ≤ n ∧ n ≤ 12) ∧ LnsOk n ls ∧ (0 ≤ a ∧ a < n) ∧ (0 ≤ b ∧ b < n) ∧ ls.length ≤ 32 ∧ bkB n ls = true := by
  rw [codeV_two] at h
  cases hb : bkB n ls with
  | false => rw [hb] at h; simp at h
  | true =>
    rw [hb] at h
    simp only [if_true] at h
    split at h
    · rename_i hc
      simp only [Bool.and_eq_true, inB, decide_eq_true_eq] at hc
      refine ⟨(bkB_in hb).1, fun l hl => ?_, by omega, by omega, ?_, rfl⟩
      · have h1 := (bkB_in hb).2 l hl
        simp only [bkB, Bool.and_eq_true, decide_eq_true_eq] at hb
        obtain ⟨j, hj, rfl⟩ := List.getElem_of_mem hl
        have := List.all_eq_true.1 hb.2 j (List.mem_range.2 hj)
        simp only [goodL, sOk, inB, Bool.and_eq_true, decide_eq_true_eq, List.getD, List.getElem?_eq_getElem hj, Option.getD_some] at this
        omega
      · simp only [bkB, Bool.and_eq_true, decide_eq_true_eq] at hb
        exact hb.1.2
    · omega
def rtN (n : Int) (ls : List Ln) (frm to : Int) : Nat := (fl (farR n ls to) frm).toNat + 1
def rtL (n : Int) (ls : List Ln) (frm to : Int) : List Int := rlist (farR n ls to) n ls frm (fl (farR n ls to) frm).toNat
theorem rtL_len (n : Int) (ls : List Ln) (frm to : Int) : (rtL n ls frm to).length = rtN n ls frm to := rlist_len _ _ _ _ _
theorem rtL_le {n : Int} {ls : List Ln} {frm to : Int} (hL : LnsOk n ls) (hn : n ≤ 12) (ht : 0 ≤ to ∧ to < n) (hh : fh (farR n ls to) frm = true) : rtN n ls frm to ≤ 12 := by
  have := (FW.of (to := to) hL hn ht).bd hh
  unfold rtN; omega
theorem ref_eq {n frm to : Int} {ls ls' : List Ln} {may : List Bool} {counts : Bool} (hL : LnsOk n ls) (hL' : LnsOk n ls') (hn : n ≤ 12) (hf : 0 ≤ frm ∧ frm < n) (ht : 0 ≤ to ∧ to < n) (hE : ∀ x y o, EL ls x y o ↔ Lk ls' may counts x y o) :
    (routeW n ls' may counts frm to).f = fh (farR n ls to) frm ∧ (fh (farR n ls to) frm = true → (routeW n ls' may counts frm to).p = rtL n ls frm to) := by
  have h := goR_eq hL hL' hn hf ht hE
  unfold goR at h
  cases hh : fh (farR n ls to) frm with
  | false =>
    rw [hh] at h
    cases hr : (routeW n ls' may counts frm to).f with
    | false => exact ⟨rfl, fun h => by cases h⟩
    | true => rw [hr] at h; simp at h
  | true =>
    rw [hh] at h
    cases hr : (routeW n ls' may counts frm to).f with
    | false => rw [hr] at h; simp at h
    | true => rw [hr] at h; simp only [if_true, Option.some.injEq] at h; exact ⟨rfl, fun _ => h.symm⟩
section
variable (n : Int) (ls : List Ln) (a b : Int) (hn : ls.length ≤ 1048576)
include hn
end
end Go.Proofs.Ytglfcaioapdiaaa.Bk

namespace Go.Proofs.Ytglfcaioapdiaaa.Bk
open Go Go.RowKit Go.Proofs.Ytglfcaioapdiaaa.Aw
set_option linter.unusedSimpArgs false
set_option linter.unusedVariables false
attribute [local irreducible] AW SQ Step RO RC DE Thn InB
end Go.Proofs.Ytglfcaioapdiaaa.Bk

-- Links of a route: the program's walk.
namespace Go.Proofs.Ytglfcaioapdiaaa.Bk
open Go Go.RowKit Go.Proofs.Ytglfcaioapdiaaa.Aw
set_option linter.unusedSimpArgs false
set_option linter.unusedVariables false
attribute [local irreducible] AW SQ Step RO RC DE Thn InB
end Go.Proofs.Ytglfcaioapdiaaa.Bk

namespace Go.Proofs.Ytglfcaioapdiaaa.Bk
open Go
set_option linter.unusedSimpArgs false
set_option linter.unusedVariables false
end Go.Proofs.Ytglfcaioapdiaaa.Bk

-- Two routes: the program's walk.
namespace Go.Proofs.Ytglfcaioapdiaaa.Bk
open Go Go.RowKit Go.Proofs.Ytglfcaioapdiaaa.Aw
set_option linter.unusedSimpArgs false
set_option linter.unusedVariables false
attribute [local irreducible] AW SQ Step RO RC DE Thn InB
end Go.Proofs.Ytglfcaioapdiaaa.Bk

namespace Go.Proofs.Ytglfcaioapdiaaa.Aw
open Go Go.RowKit
set_option linter.unusedVariables false
section
variable {P : Program} {N g n : Nat} {Q : Exit → Tp → Hp → Nat → Prop} {T : Tp} {H : Hp}
end
def mv (a b : Nat) : Nat → Nat := fun z => if z = a then b else z
end Go.Proofs.Ytglfcaioapdiaaa.Aw
