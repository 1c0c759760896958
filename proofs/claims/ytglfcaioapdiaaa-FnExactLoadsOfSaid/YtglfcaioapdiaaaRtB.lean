/-
  Best routes: the reference's walk.
-/
import Derived.Test.YtglfcaioapdiaaaRtA
import Derived.Test.YtglfcaioapdiaaaCoB
import Derived.Test.YtglfcaioapdiaaaCoA
import Derived.Test.YtglfcaioapdiaaaAwFy
namespace Go.Proofs.Ytglfcaioapdiaaa.Bk
open Go Go.RowKit Go.Proofs.Ytglfcaioapdiaaa.Aw
set_option linter.unusedSimpArgs false
set_option linter.unusedVariables false
attribute [local irreducible] AW SQ Step RO RC DE Thn InB

def nextW (W : List Wy) (x y cost : Int) : Wy := ⟨(W.getD x.toNat wyz).p ++ [y], (W.getD x.toNat wyz).c + cost, true⟩
def relaxW (W : List Wy) (x y cost : Int) : List Wy :=
  if (W.getD x.toNat wyz).f = true ∧ ((W.getD x.toNat wyz).p.any fun z => z == y) = false ∧ better (nextW W x y cost) (W.getD y.toNat wyz) = true then W.set y.toNat (nextW W x y cost) else W
def twoW (W : List Wy) (a b cost : Int) : Nat → List Wy
  | 0 => W
  | 1 => relaxW W a b cost
  | _ => relaxW (relaxW W a b cost) b a cost
def costW (counts : Bool) (l : Ln) : Int := if counts then l.o else 0
def linkW (counts : Bool) (W : List Wy) (l : Ln) (m : Bool) : List Wy := if m then twoW W l.a l.b (costW counts l) 2 else W
def turnW (ls : List Ln) (may : List Bool) (counts : Bool) (W : List Wy) : Nat → List Wy
  | 0 => W
  | i + 1 => linkW counts (turnW ls may counts W i) (ls.getD i lnz) (may.getD i false)
def ways0 (n frm : Int) : List Wy := (List.replicate n.toNat wyz).set frm.toNat ⟨[frm], 0, true⟩
def waysN (n : Int) (ls : List Ln) (may : List Bool) (counts : Bool) (frm : Int) : Nat → List Wy
  | 0 => ways0 n frm
  | t + 1 => turnW ls may counts (waysN n ls may counts frm t) ls.length
def routeW (n : Int) (ls : List Ln) (may : List Bool) (counts : Bool) (frm to : Int) : Wy := (waysN n ls may counts frm n.toNat).getD to.toNat wyz

structure GoodY (n : Int) (w : Wy) : Prop where
  nd : w.p.Nodup
  rng : ∀ x ∈ w.p, 0 ≤ x ∧ x < n
  c0 : 0 ≤ w.c
  c1 : w.c ≤ 1000000 * (w.p.length : Int)
structure GoodW (n : Int) (W : List Wy) : Prop where
  len : W.length = n.toNat
  all : ∀ i, i < n.toNat → GoodY n (W.getD i wyz)
theorem GoodY.z (n : Int) : GoodY n wyz := ⟨List.nodup_nil, by simp [wyz], by simp [wyz], by simp [wyz]⟩
theorem GoodY.le {n : Int} {w : Wy} (hn : 0 ≤ n) (h : GoodY n w) : w.p.length ≤ n.toNat := pigeon _ _ h.nd fun x hx => by have := h.rng x hx; omega
theorem GoodW.at {n : Int} {W : List Wy} (h : GoodW n W) (i : Nat) : GoodY n (W.getD i wyz) := by
  by_cases hi : i < n.toNat
  · exact h.all i hi
  · have : W.getD i wyz = wyz := by simp [List.getD, List.getElem?_eq_none (show W.length ≤ i by rw [h.len]; omega)]
    rw [this]; exact GoodY.z n
theorem GoodW.set {n : Int} {W : List Wy} (h : GoodW n W) (j : Nat) {w : Wy} (hw : GoodY n w) : GoodW n (W.set j w) := by
  refine ⟨by simp [h.len], fun i hi => ?_⟩
  have := h.at i
  simp only [List.getD, List.getElem?_set] at this ⊢
  split
  · split
    · exact hw
    · exact GoodY.z n
  · exact this
theorem nextW_good {n : Int} {W : List Wy} {x y cost : Int} (h : GoodW n W) (hy : 0 ≤ y ∧ y < n) (hc : 0 ≤ cost ∧ cost ≤ 1000000) (hp : ((W.getD x.toNat wyz).p.any fun z => z == y) = false) : GoodY n (nextW W x y cost) := by
  have g := h.at x.toNat
  simp only [List.any_eq_false, beq_iff_eq] at hp
  refine ⟨List.nodup_append.2 ⟨g.nd, by simp, fun a ha b hb => ?_⟩, fun z hz => ?_, ?_, ?_⟩
  · simp at hb; subst hb; exact fun e => hp a ha e
  · rcases List.mem_append.1 hz with hz | hz
    · exact g.rng z hz
    · simp at hz; subst hz; exact hy
  · have := g.c0; simp only [nextW]; omega
  · have := g.c1; simp only [nextW, List.length_append, List.length_singleton]; omega
theorem relaxW_good {n : Int} {W : List Wy} {x y cost : Int} (h : GoodW n W) (hy : 0 ≤ y ∧ y < n) (hc : 0 ≤ cost ∧ cost ≤ 1000000) : GoodW n (relaxW W x y cost) := by
  unfold relaxW
  split
  · rename_i hh; exact h.set _ (nextW_good h hy hc hh.2.1)
  · exact h
theorem costW_in {counts : Bool} {l : Ln} (h : 0 ≤ l.o ∧ l.o ≤ 1000000) : 0 ≤ costW counts l ∧ costW counts l ≤ 1000000 := by
  unfold costW; split <;> omega
theorem twoW_good {n : Int} {W : List Wy} {a b cost : Int} (h : GoodW n W) (ha : 0 ≤ a ∧ a < n) (hb : 0 ≤ b ∧ b < n) (hc : 0 ≤ cost ∧ cost ≤ 1000000) : ∀ k, GoodW n (twoW W a b cost k)
  | 0 => h
  | 1 => relaxW_good h hb hc
  | _ + 2 => relaxW_good (relaxW_good h hb hc) ha hc
def LnsOk (n : Int) (ls : List Ln) : Prop := ∀ l ∈ ls, (0 ≤ l.a ∧ l.a < n) ∧ (0 ≤ l.b ∧ l.b < n) ∧ (0 ≤ l.o ∧ l.o ≤ 1000000)
theorem turnW_good {n : Int} {ls : List Ln} {may : List Bool} {counts : Bool} {W : List Wy} (hL : LnsOk n ls) (h : GoodW n W) : ∀ i, i ≤ ls.length → GoodW n (turnW ls may counts W i)
  | 0, _ => h
  | i + 1, hi => by
    have ih := turnW_good (may := may) (counts := counts) hL h i (by omega)
    obtain ⟨h1, h2, h3⟩ := hL ls[i] (List.getElem_mem (by omega))
    have hD : ls.getD i lnz = ls[i] := by simp [List.getD, show i < ls.length by omega]
    simp only [turnW, linkW, hD]
    split
    · exact twoW_good ih h1 h2 (costW_in h3) 2
    · exact ih
theorem ways0_good {n frm : Int} (hf : 0 ≤ frm ∧ frm < n) : GoodW n (ways0 n frm) := by
  have h0 : GoodW n (List.replicate n.toNat wyz) := ⟨by simp, fun i hi => by simp [List.getD, List.getElem?_replicate, hi]; exact GoodY.z n⟩
  exact h0.set _ ⟨by simp, by simp; exact hf, by simp, by simp⟩
theorem waysN_good {n : Int} {ls : List Ln} {may : List Bool} {counts : Bool} {frm : Int} (hL : LnsOk n ls) (hf : 0 ≤ frm ∧ frm < n) : ∀ t, GoodW n (waysN n ls may counts frm t)
  | 0 => ways0_good hf
  | t + 1 => turnW_good hL (waysN_good hL hf t) _ (Nat.le_refl _)

set_option maxHeartbeats 4000000 in
theorem l25Route_rc (n : Int) (ls : List Ln) (may : List Bool) (counts : Bool) (frm to : Int) (hN : 1 ≤ n ∧ n ≤ 12) (hn : ls.length ≤ 1048576) (hm : may.length = ls.length) (hL : LnsOk n ls) (hf : 0 ≤ frm ∧ frm < n) (ht : 0 ≤ to ∧ to < n) (k : Nat) :
    RC Try.prog 46 [.dptr (bkL n ls), .v (.int .i64 frm), .v (.int .i64 to), .dsl 1 (may.map boL), .v (.bool counts)] [] k (.tup [.dsl 1 ((routeW n ls may counts frm to).p.map inL), .v (.bool (routeW n ls may counts frm to).f)]) [] k := by
  refine RC.ofc [] 0 [.dptr (bkL n ls), .v (.int .i64 frm), .v (.int .i64 to), .dsl 1 (may.map boL), .v (.bool counts)] [] (.tup [.dsl 1 ((routeW n ls may counts frm to).p.map inL), .v (.bool (routeW n ls may counts frm to).f)]) [] Try.func46 Try.ntmps46 rfl (goFn_of Try.func46 rfl (by kernel_rfl)) rfl rfl rfl rfl rfl rfl rfl rfl (by simp_all) rfl ?_
  unfold bkL
  ((repeat' (first
    | (show SQ _ _ _ _ _ _ _ _; first | apply sq_nil | (apply q_move; exact rfl; exact rfl) | (apply q_assign; exact rfl; exact rfl) | (apply q_fieldAddr; exact rfl; exact rfl; exact (ty rfl); exact rfl; exact rfl; exact rfl; exact rfl) | (apply q_nilc; exact rfl; exact rfl; exact rfl) | (apply q_ixl; exact rfl; exact rfl; exact rfl; exact (ty rfl); exact rfl; exact rfl; exact rfl; exact (by first | omega | (simp; done) | (simp; omega)); exact (by first | omega | (simp; done) | (simp; omega))) | (apply q_ld1d; exact rfl; exact rfl; exact (ty rfl); exact rfl; exact rfl) | (apply q_build; exact rfl; exact (ty rfl); exact rfl; exact rfl; exact rfl))
    | (show SQ _ _ _ _ _ _ _ _; (first | (apply q_mks; exact rfl; exact rfl; exact rfl; exact (ty rfl); exact rfl; exact (by first | omega | (simp; done) | (simp; omega)); exact (by first | omega | (simp; done) | (simp; omega)); exact (by first | omega | (simp; done) | (simp; omega)); exact (by first | omega | (simp; done) | (simp; omega)); exact rfl; exact rfl) | (apply q_buildn; exact rfl; exact (ty rfl); exact rfl; exact rfl; exact rfl; exact rfl; exact rfl; exact rfl; exact rfl)); (try simp only [put, rowsOf, plR, List.all_cons, selE, ovr, setH, del, cellsA, splice, isV, List.nil_append, List.cons_append, List.map_cons, List.map_nil, List.length_cons, List.length_nil, List.set_cons_zero, List.set_cons_succ, List.take_succ_cons, List.take_zero, List.take_nil, List.drop_succ_cons, List.drop_zero, List.drop_nil, List.append_nil, List.all_cons, List.all_nil, Bool.and_true, Bool.true_and, Bool.and_false, Bool.false_and, Nat.reduceAdd, Nat.zero_add, Nat.add_zero, Nat.reduceEqDiff, if_true, if_false, reduceIte]))
    | (show AW _ _ _ _ _ _ _ _; first | refine aw_region ?_ | (refine aw_seqk ?_; intro K hK))
    | refine thn_n ?_
    | (refine hK _ _ _ ?_; clear hK K))); all_goals (repeat (clear hK K)))
  refine sq_wkB 0 (List.replicate n.toNat (wyL wyz)) rfl (WkR.rep3 (.nil 1) (.same _) (.same _)) ?_
  have hst : (List.replicate n.toNat (wyL wyz)).set frm.toNat [.dsl 1 [[.v (.int .i64 frm)]], .v (.int .i64 0), .v (.bool true)] = (ways0 n frm).map wyL := by
    rw [ways0, List.map_set, List.map_replicate]; rfl
  have hz : (List.replicate n.toNat (wyL wyz))[frm.toNat]? = some [.dsl 1 [], .v (.int .i64 0), .v (.bool false)] := by
    rw [List.getElem?_replicate, if_pos (by omega)]; rfl
  ((repeat' (first
    | (show SQ _ _ _ _ _ _ _ _; apply sq_frza (t := 29) 0; exact rfl; exact rfl; exact rfl; exact (by first | rfl | exact all_noOwn_map (fun _ => rfl) | assumption); exact (by first | omega | (simp; done) | (simp; omega)); exact (by first | exact dt_full (by first | omega | (simp; done) | (simp; omega)) | assumption | rfl); (try simp only [put, rowsOf, plR, List.all_cons, selE, ovr, setH, del, cellsA, splice, isV, List.nil_append, List.cons_append, List.map_cons, List.map_nil, List.length_cons, List.length_nil, List.set_cons_zero, List.set_cons_succ, List.take_succ_cons, List.take_zero, List.take_nil, List.drop_succ_cons, List.drop_zero, List.drop_nil, List.append_nil, List.all_cons, List.all_nil, Bool.and_true, Bool.true_and, Bool.and_false, Bool.false_and, Nat.reduceAdd, Nat.zero_add, Nat.add_zero, Nat.reduceEqDiff, if_true, if_false, reduceIte]))
    | (show SQ _ _ _ _ _ _ _ _; first | apply sq_nil | (apply q_assign; exact rfl; exact rfl))
    | (show SQ _ _ _ _ _ _ _ _; (first | (apply q_store; exact rfl; exact rfl; exact (ty rfl); exact rfl; exact (by first | rfl | assumption | ((try simp only [Nat.zero_add]); refine List.getElem?_set_self ?_; (try simp only [List.length_set]); assumption)); exact rfl; exact rfl; exact rfl)); (try simp only [put, rowsOf, plR, List.all_cons, selE, ovr, setH, del, cellsA, splice, isV, List.nil_append, List.cons_append, List.map_cons, List.map_nil, List.length_cons, List.length_nil, List.set_cons_zero, List.set_cons_succ, List.take_succ_cons, List.take_zero, List.take_nil, List.drop_succ_cons, List.drop_zero, List.drop_nil, List.append_nil, List.all_cons, List.all_nil, Bool.and_true, Bool.true_and, Bool.and_false, Bool.false_and, Nat.reduceAdd, Nat.zero_add, Nat.add_zero, Nat.reduceEqDiff, if_true, if_false, reduceIte]))
    | (show AW _ _ _ _ _ _ _ _; first | refine aw_region ?_ | (refine aw_seqk ?_; intro K hK) | refine aw_block ?_)
    | refine thn_n ?_
    | (refine hK _ _ _ ?_; clear hK K))); all_goals (repeat (clear hK K)))
  refine aw_loop (ρ := id) (ι := Nat) (fun t => ([(13, .v (.int .i64 t)), (12, .sl 0 0 n.toNat), (4, .v (.bool counts)), (3, .dsl 1 (may.map boL)), (2, .v (.int .i64 to)), (0, .dptr [.v (.int .i64 n), .dsl 4 (ls.map lnL)])], [(0, ⟨109, 3, false, (waysN n ls may counts frm t).map wyL⟩)], 1))
    (fun t => t ≤ n.toNat) (fun t => n.toNat - t) 0 (Nat.zero_le _) ⟨by (repeat (refine ⟨by first | exact lk_i rfl rfl | exact lk_d rfl rfl | exact lk_v rfl rfl | exact lk_s rfl rfl rfl rfl | exact lk_p rfl rfl, ?_⟩)); exact trivial, by (repeat (refine ⟨by first | exact lknc rfl rfl rfl (by exact hst) (by first | rfl | exact all_noOwn_map (fun _ => rfl) | assumption) rfl, ?_⟩)); exact trivial, by rfl, by exact pin_0⟩ ?_
  clear hst hz
  intro t hi
  have hG := waysN_good (may := may) (counts := counts) hL hf t
  by_cases c1 : t < n.toNat
  · have b1 : decide ((t : Int) < n) = true := by simp only [decide_eq_true_eq]; omega
    have hw1 : IntKind.i64.wrap ((t : Int) + 1) = ((t + 1 : Nat) : Int) := by rw [IntWalk.i64_in _ (by omega)]; omega
    have hN1 : waysN n ls may counts frm (t + 1) = turnW ls may counts (waysN n ls may counts frm t) ls.length := rfl
    generalize waysN n ls may counts frm t = W at hG hN1 ⊢
    ((repeat' (first
    | (show SQ _ _ _ _ _ _ _ _; first | apply sq_nil | (apply q_move; exact rfl; exact rfl) | (apply q_assign; exact rfl; exact rfl) | (apply q_fieldAddr; exact rfl; exact rfl; exact (ty rfl); exact rfl; exact rfl; exact rfl; exact rfl) | (apply q_nilc; exact rfl; exact rfl; exact rfl) | (apply q_lss; exact rfl; exact rfl; exact rfl) | (apply q_ld1d; exact rfl; exact rfl; exact (ty rfl); exact rfl; exact rfl))
    | (show AW _ _ _ _ _ _ _ _; first | refine aw_region ?_ | (refine aw_seqk ?_; intro K hK) | refine aw_block ?_ | (apply aw_cond_t; exact rfl; exact (by assumption)) | refine aw_skip ?_)
    | refine thn_n ?_
    | (refine hK _ _ _ ?_; clear hK K))); all_goals (repeat (clear hK K)))
    refine aw_loop (ρ := id) (ι := Nat) (fun i => ([(14, .v (.int .i64 i)), (13, .v (.int .i64 t)), (12, .sl 0 0 n.toNat), (4, .v (.bool counts)), (3, .dsl 1 (may.map boL)), (2, .v (.int .i64 to)), (0, .dptr [.v (.int .i64 n), .dsl 4 (ls.map lnL)])], [(0, ⟨109, 3, false, (turnW ls may counts W i).map wyL⟩)], 1))
      (fun i => i ≤ ls.length) (fun i => ls.length - i) 0 (Nat.zero_le _) ⟨by (repeat (refine ⟨by first | exact lk_i rfl rfl | exact lk_d rfl rfl | exact lk_v rfl rfl | exact lk_s rfl rfl rfl rfl | exact lk_p rfl rfl, ?_⟩)); exact trivial, by (repeat (refine ⟨by first | exact lknc rfl rfl rfl rfl (by first | rfl | exact all_noOwn_map (fun _ => rfl) | assumption) rfl, ?_⟩)); exact trivial, by rfl, by exact pin_0⟩ ?_
    intro i hi2
    have hGi := turnW_good (may := may) (counts := counts) hL hG i hi2
    by_cases c2 : i < ls.length
    · have b2 : decide ((i : Int) < ((ls.map lnL).length : Int)) = true := by simpa using c2
      have hw2 : IntKind.i64.wrap ((i : Int) + 1) = ((i + 1 : Nat) : Int) := by rw [IntWalk.i64_in _ (by omega)]; omega
      have c3 : i < may.length := by omega
      have hrow1 : (may.map boL)[((i : Int)).toNat]? = some (boL may[i]) := by simp [c3]
      rw [boL_eq] at hrow1
      have hrow2 : (ls.map lnL)[((i : Int)).toNat]? = some (lnL ls[i]) := by simp [c2]
      rw [lnL_eq] at hrow2
      have hT : turnW ls may counts W (i + 1) = linkW counts (turnW ls may counts W i) ls[i] may[i] := by simp [turnW, List.getD, c2, c3]
      obtain ⟨h1, h2, h3⟩ := hL ls[i] (List.getElem_mem c2)
      generalize turnW ls may counts W i = V at hGi hT ⊢
      generalize ls[i] = l at hrow2 hT h1 h2 h3
      cases hb : may[i] with
      | false =>
        rw [hb] at hrow1 hT
        have e1 : turnW ls may counts W (i + 1) = V := hT
        ((repeat' (first
    | (show SQ _ _ _ _ _ _ _ _; first | apply sq_nil | (apply q_move; exact rfl; exact rfl) | (apply q_assign; exact rfl; exact rfl) | (apply q_fieldAddr; exact rfl; exact rfl; exact (ty rfl); exact rfl; exact rfl; exact rfl; exact rfl) | (apply q_nilc; exact rfl; exact rfl; exact rfl) | (apply q_not; exact rfl; exact rfl) | (apply q_lend; exact rfl; exact rfl; exact (ty rfl); exact rfl) | (apply q_add; exact rfl; exact rfl; exact rfl) | (apply q_lss; exact rfl; exact rfl; exact rfl) | (apply q_ixd; exact rfl; exact rfl; exact rfl; exact (ty rfl); exact rfl; exact (by first | omega | (simp; done) | (simp; omega)); exact (by first | omega | (simp; done) | (simp; omega)); exact (by first | rfl | assumption)) | (apply q_ld1d; exact rfl; exact rfl; exact (ty rfl); exact rfl; exact rfl))
    | (show AW _ _ _ _ _ _ _ _; first | refine aw_region ?_ | (refine aw_seqk ?_; intro K hK) | refine aw_block ?_ | (apply aw_cond_t; exact rfl; exact rfl) | (apply aw_cond_t; exact rfl; exact (by assumption)) | refine aw_exit ?_ | refine aw_skip ?_)
    | refine thn_n ?_
    | (refine hK _ _ _ ?_; clear hK K)
    | refine thn_e ?_
    | refine inb_same ?_
    | (clear hK K; refine hK _ _ _ ?_; clear hK K))); all_goals (repeat (clear hK K)))
        all_goals (refine ⟨i + 1, id, c2, by omega, ?_⟩; (try dsimp only); rw [e1, ← hw2]; exact ⟨by (repeat (refine ⟨by first | exact lk_i rfl rfl | exact lk_d rfl rfl | exact lk_v rfl rfl | exact lk_s rfl rfl rfl rfl | exact lk_p rfl rfl, ?_⟩)); exact trivial, by (repeat (refine ⟨by first | exact lknc rfl rfl rfl rfl (by first | rfl | exact all_noOwn_map (fun _ => rfl) | assumption) rfl, ?_⟩)); exact trivial, by rfl, by exact pin_0⟩)
      | true =>
        rw [hb] at hrow1 hT
        have e1 : turnW ls may counts W (i + 1) = twoW V l.a l.b (costW counts l) 2 := hT
        have hc := costW_in (counts := counts) h3
        have hcost : costW counts l = if counts then l.o else 0 := rfl
        generalize costW counts l = cost at e1 hc hcost
        ((repeat' (first
    | (show SQ _ _ _ _ _ _ _ _; first | apply sq_nil | (apply q_move; exact rfl; exact rfl) | (apply q_assign; exact rfl; exact rfl) | (apply q_fieldAddr; exact rfl; exact rfl; exact (ty rfl); exact rfl; exact rfl; exact rfl; exact rfl) | (apply q_nilc; exact rfl; exact rfl; exact rfl) | (apply q_not; exact rfl; exact rfl) | (apply q_lend; exact rfl; exact rfl; exact (ty rfl); exact rfl) | (apply q_lss; exact rfl; exact rfl; exact rfl) | (apply q_ixd; exact rfl; exact rfl; exact rfl; exact (ty rfl); exact rfl; exact (by first | omega | (simp; done) | (simp; omega)); exact (by first | omega | (simp; done) | (simp; omega)); exact (by first | rfl | assumption)) | (apply q_ld1d; exact rfl; exact rfl; exact (ty rfl); exact rfl; exact rfl))
    | (show AW _ _ _ _ _ _ _ _; first | refine aw_region ?_ | (refine aw_seqk ?_; intro K hK) | refine aw_block ?_ | (apply aw_cond_f; exact rfl; exact rfl) | (apply aw_cond_t; exact rfl; exact (by assumption)) | refine aw_skip ?_ | (apply aw_ite; exact rfl; all_goals intro h))
    | refine thn_n ?_
    | (refine hK _ _ _ ?_; clear hK K))); all_goals (repeat (clear hK K)))
        all_goals (rw [h] at hcost; simp only [if_true, Bool.false_eq_true, if_false] at hcost; clear h)
        all_goals
          refine aw_loop (ρ := id) (ι := Nat) (fun q => ([(16, .v (.int .i64 q)), (15, .v (.int .i64 cost)), (14, .v (.int .i64 i)), (13, .v (.int .i64 t)), (12, .sl 0 0 n.toNat), (4, .v (.bool counts)), (3, .dsl 1 (may.map boL)), (2, .v (.int .i64 to)), (0, .dptr [.v (.int .i64 n), .dsl 4 (ls.map lnL)])], [(0, ⟨109, 3, false, (twoW V l.a l.b cost q).map wyL⟩)], 1))
            (fun q => q ≤ 2) (fun q => 2 - q) 0 (Nat.zero_le _) ⟨by (repeat (refine ⟨by first | exact lk_i rfl rfl | exact lk_i rfl (by (try dsimp only); first | rfl | omega | (rw [IntWalk.i64_in _ (by omega)]; first | rfl | omega | (push_cast; omega)) | (simp; done) | (simp; omega)) | exact lk_d rfl rfl | exact lk_v rfl rfl | exact lk_s rfl rfl rfl rfl | exact lk_p rfl rfl, ?_⟩)); exact trivial, by (repeat (refine ⟨by first | exact lknc rfl rfl rfl rfl (by first | rfl | exact all_noOwn_map (fun _ => rfl) | assumption) rfl, ?_⟩)); exact trivial, by rfl, by exact pin_0⟩ ?_
          clear hcost
          intro q hq
          match q, hq with
          | 0, _ =>
            have b5 : decide (((0 : Nat) : Int) < 2) = true := by decide
            have b6 : (((0 : Nat) : Int) == 1) = false := by decide
            have hw3 : IntKind.i64.wrap (((0 : Nat) : Int) + 1) = ((1 : Nat) : Int) := by decide
            have hGq := twoW_good hGi h1 h2 hc 0
            have hS : twoW V l.a l.b cost 1 = relaxW (twoW V l.a l.b cost 0) l.a l.b cost := rfl
            generalize twoW V l.a l.b cost 0 = Z at hGq hS ⊢
            have g1 := hGq.at l.a.toNat
            have g2 := hGq.at l.b.toNat
            have hlen := hGq.len
            have k1 : l.a.toNat < Z.length := by omega
            have k2 : l.b.toNat < Z.length := by omega
            have hr1 : (Z.map wyL)[0 + l.a.toNat]? = some (wyL (Z.getD l.a.toNat wyz)) := by simp [List.getD, k1]
            have hr2 : (Z.map wyL)[0 + l.b.toNat]? = some (wyL (Z.getD l.b.toNat wyz)) := by simp [List.getD, k2]
            rw [wyL_eq] at hr1 hr2
            cases hfx : (Z.getD l.a.toNat wyz).f with
            | false =>
              rw [hfx] at hr1
              have e2 : relaxW Z l.a l.b cost = Z := by unfold relaxW; rw [hfx]; simp
              ((repeat' (first
    | (show SQ _ _ _ _ _ _ _ _; first | apply sq_nil | (apply q_move; exact rfl; exact rfl) | (apply q_assign; exact rfl; exact rfl) | (apply q_pick_t; exact rfl; exact rfl; exact rfl; exact (by first | assumption | exact rfl)) | (apply q_fieldAddr; exact rfl; exact rfl; exact (ty rfl); exact rfl; exact rfl; exact rfl; exact rfl) | (apply q_nilc; exact rfl; exact rfl; exact rfl) | (apply q_not; exact rfl; exact rfl) | (apply q_add; exact rfl; exact rfl; exact rfl) | (apply q_eql; exact rfl; exact rfl; exact rfl) | (apply q_lss; exact rfl; exact rfl; exact rfl) | (apply q_ixd; exact rfl; exact rfl; exact rfl; exact (ty rfl); exact rfl; exact (by first | omega | (simp; done) | (simp; omega)); exact (by first | omega | (simp; done) | (simp; omega)); exact (by first | rfl | assumption)) | (apply q_ixl; exact rfl; exact rfl; exact rfl; exact (ty rfl); exact rfl; exact rfl; exact rfl; exact (by first | omega | (simp; done) | (simp; omega)); exact (by first | omega | (simp; done) | (simp; omega))) | (apply q_ld1d; exact rfl; exact rfl; exact (ty rfl); exact rfl; exact rfl) | (apply q_ld1p; exact rfl; exact rfl; exact (ty rfl); exact rfl; exact rfl; exact (by first | rfl | assumption | ((try simp only [Nat.zero_add]); refine List.getElem?_set_self ?_; (try simp only [List.length_set]); assumption)); exact rfl) | (apply q_s; exact rfl; exact rfl; exact rfl; exact (by assumption); exact rfl))
    | (show AW _ _ _ _ _ _ _ _; first | refine aw_region ?_ | (refine aw_seqk ?_; intro K hK) | refine aw_block ?_ | (apply aw_cond_t; exact rfl; exact rfl) | (apply aw_cond_f; exact rfl; exact rfl) | refine aw_exit ?_ | refine aw_skip ?_)
    | refine thn_n ?_
    | (refine hK _ _ _ ?_; clear hK K)
    | refine thn_e ?_
    | refine inb_same ?_
    | (clear hK K; refine hK _ _ _ ?_; clear hK K))); all_goals (repeat (clear hK K)))
              all_goals (refine ⟨1, id, by omega, by omega, ?_⟩; (try dsimp only); rw [hS, e2, ← hw3]; exact ⟨by (repeat (refine ⟨by first | exact lk_i rfl rfl | exact lk_d rfl rfl | exact lk_v rfl rfl | exact lk_s rfl rfl rfl rfl | exact lk_p rfl rfl, ?_⟩)); exact trivial, by (repeat (refine ⟨by first | exact lknc rfl rfl rfl rfl (by first | rfl | exact all_noOwn_map (fun _ => rfl) | assumption) rfl, ?_⟩)); exact trivial, by rfl, by exact pin_0⟩)
            | true =>
              rw [hfx] at hr1
              have hrel : relaxW Z l.a l.b cost = if (true = true ∧ ((Z.getD l.a.toNat wyz).p.any fun z => z == l.b) = false ∧ better (nextW Z l.a l.b cost) (Z.getD l.b.toNat wyz) = true) then Z.set l.b.toNat (nextW Z l.a l.b cost) else Z := by unfold relaxW; rw [hfx]
              have g3 := g1.le (by omega)
              have g4 := g2.le (by omega)
              have u1 := g1.c0
              have u2 := g1.c1
              have hcw : IntKind.i64.wrap ((Z.getD l.a.toNat wyz).c + cost) = (Z.getD l.a.toNat wyz).c + cost := IntWalk.i64_in _ (by omega)
              have hC := l00Has_ro (Z.getD l.a.toNat wyz).p ((Z.getD l.a.toNat wyz).p.map inL) l.b rfl (by omega)
              have hO := l00Own_ro (Z.getD l.a.toNat wyz).p (by omega)
              have hB := l25Better_ro (nextW Z l.a l.b cost) (Z.getD l.b.toNat wyz) (by simp only [nextW, List.length_append, List.length_singleton]; omega) (by omega)
              unfold nextW at hB hrel
              rw [wyL_eq, wyL_eq] at hB
              simp only [List.map_append] at hB
              rw [← hcw] at hB hrel
              have hset : (Z.set l.b.toNat ⟨(Z.getD l.a.toNat wyz).p ++ [l.b], IntKind.i64.wrap ((Z.getD l.a.toNat wyz).c + cost), true⟩).map wyL = (Z.map wyL).set l.b.toNat [.dsl 1 ((Z.getD l.a.toNat wyz).p.map inL ++ [[.v (.int .i64 l.b)]]), .v (.int .i64 (IntKind.i64.wrap ((Z.getD l.a.toNat wyz).c + cost))), .v (.bool true)] := by
                rw [List.map_set, wyL_eq, List.map_append]; rfl
              clear hcw
              generalize (Z.getD l.a.toNat wyz).p = p at *
              generalize (Z.getD l.a.toNat wyz).c = pc at *
              generalize Z.getD l.b.toNat wyz = wy at *
              have hml : (p.map inL).length = p.length := List.length_map _
              have hcl : ((p.map inL ++ [[AV.v (.int .i64 l.b)]]).all noOwnL) = true := by simp [List.all_append, List.all_map, inL, noOwnL, noOwn]
              ((repeat' (first
    | (show SQ _ _ _ _ _ _ _ _; apply sq_frza (t := 138) 0; exact rfl; exact rfl; exact rfl; exact (by first | rfl | exact all_noOwn_map (fun _ => rfl) | assumption); exact (by first | omega | (simp; done) | (simp; omega)); exact (by first | exact dt_full (by first | omega | (simp; done) | (simp; omega)) | assumption | rfl); (try simp only [put, rowsOf, plR, List.all_cons, selE, ovr, setH, del, cellsA, splice, isV, List.nil_append, List.cons_append, List.map_cons, List.map_nil, List.length_cons, List.length_nil, List.set_cons_zero, List.set_cons_succ, List.take_succ_cons, List.take_zero, List.take_nil, List.drop_succ_cons, List.drop_zero, List.drop_nil, List.append_nil, List.all_cons, List.all_nil, Bool.and_true, Bool.true_and, Bool.and_false, Bool.false_and, Nat.reduceAdd, Nat.zero_add, Nat.add_zero, Nat.reduceEqDiff, if_true, if_false, reduceIte]))
    | (show SQ _ _ _ _ _ _ _ _; first | apply sq_nil | (apply q_move; exact rfl; exact rfl) | (apply q_assign; exact rfl; exact rfl) | (apply q_pick_f; exact rfl; exact rfl; exact rfl; exact (by first | assumption | exact rfl)) | (apply q_fieldAddr; exact rfl; exact rfl; exact (ty rfl); exact rfl; exact rfl; exact rfl; exact rfl) | (apply q_nilc; exact rfl; exact rfl; exact rfl) | (apply q_not; exact rfl; exact rfl) | (apply q_add; exact rfl; exact rfl; exact rfl) | (apply q_eql; exact rfl; exact rfl; exact rfl) | (apply q_lss; exact rfl; exact rfl; exact rfl) | (apply q_ixd; exact rfl; exact rfl; exact rfl; exact (ty rfl); exact rfl; exact (by first | omega | (simp; done) | (simp; omega)); exact (by first | omega | (simp; done) | (simp; omega)); exact (by first | rfl | assumption)) | (apply q_ixl; exact rfl; exact rfl; exact rfl; exact (ty rfl); exact rfl; exact rfl; exact rfl; exact (by first | omega | (simp; done) | (simp; omega)); exact (by first | omega | (simp; done) | (simp; omega))) | (apply q_ld1d; exact rfl; exact rfl; exact (ty rfl); exact rfl; exact rfl) | (apply q_ld1p; exact rfl; exact rfl; exact (ty rfl); exact rfl; exact rfl; exact (by first | rfl | assumption | ((try simp only [Nat.zero_add]); refine List.getElem?_set_self ?_; (try simp only [List.length_set]); assumption)); exact rfl) | (apply q_g; exact rfl; exact rfl; exact rfl; exact (by assumption)))
    | (show SQ _ _ _ _ _ _ _ _; (first | (apply q_ldap; exact rfl; exact rfl; exact (ty rfl); exact rfl; exact rfl; exact (by first | rfl | assumption | ((try simp only [Nat.zero_add]); refine List.getElem?_set_self ?_; (try simp only [List.length_set]); assumption)); exact rfl) | (apply q_store; exact rfl; exact rfl; exact (ty rfl); exact rfl; exact (by first | rfl | assumption | ((try simp only [Nat.zero_add]); refine List.getElem?_set_self ?_; (try simp only [List.length_set]); assumption)); exact rfl; exact rfl; exact rfl) | (apply q_callU; exact rfl; exact rfl; exact rfl; exact FzL.of rfl; exact hC _) | (apply q_callU; exact rfl; exact rfl; exact rfl; rotate_left; exact hB _; rotate_right; focus ((repeat' (first | exact FzL.nil | exact (by assumption : FzC _) _ | refine FzL.cons ?_ ?_ | exact Fz.of rfl | exact Fz.nil | exact Fz.emp | (apply Fz.fnC; assumption) | (apply Fz.sl2; exact rfl; exact (by first | omega | (simp; done) | (simp; omega)); first | exact rfl | exact dt_full (by first | omega | (simp; done) | (simp; omega)) | assumption) | apply Fz.agg | (apply Fz.ptrL; exact rfl; first | exact rfl | assumption) | apply Fz.fnL)); done))); (try simp only [put, rowsOf, plR, List.all_cons, selE, ovr, setH, del, cellsA, splice, isV, List.nil_append, List.cons_append, List.map_cons, List.map_nil, List.length_cons, List.length_nil, List.set_cons_zero, List.set_cons_succ, List.take_succ_cons, List.take_zero, List.take_nil, List.drop_succ_cons, List.drop_zero, List.drop_nil, List.append_nil, List.all_cons, List.all_nil, Bool.and_true, Bool.true_and, Bool.and_false, Bool.false_and, Nat.reduceAdd, Nat.zero_add, Nat.add_zero, Nat.reduceEqDiff, if_true, if_false, reduceIte]))
    | (show DE _ _ _ _ _ _ _ _ _ _ _ _; first | (apply e_al3; exact rfl; exact (ty rfl); exact rfl; exact rfl; exact rfl) | (apply e_rdi; exact rfl; exact rfl; exact rfl; exact (ty rfl); exact rfl; exact rfl; exact rfl; exact (by first | omega | (simp; done) | (simp; omega)); exact (by first | omega | (simp; done) | (simp; omega)); exact rfl; exact rfl) | (apply e_move; exact rfl; exact rfl; exact rfl) | (apply e_fieldAddr; exact rfl; exact rfl; exact (ty rfl); exact rfl; exact rfl; exact rfl; exact rfl; exact rfl) | (apply e_add; exact rfl; exact rfl; exact rfl; exact rfl) | (apply e_build; exact rfl; exact (ty rfl); exact rfl; exact rfl; exact rfl; exact rfl))
    | (show DE _ _ _ _ _ _ _ _ _ _ _ _; (first | (apply dr_nil; (focus ((repeat (first | exact trivial | exact Or.inr rfl | exact Or.inl (by kernel_rfl) | apply And.intro)); done))) | (apply e_rd1; exact rfl; exact rfl; exact (ty rfl); exact rfl; exact rfl; exact (by first | rfl | assumption | ((try simp only [Nat.zero_add]); refine List.getElem?_set_self ?_; (try simp only [List.length_set]); assumption)); exact rfl; exact rfl; exact rfl) | (apply e_store; exact rfl; exact rfl; exact (ty rfl); exact rfl; exact (by first | rfl | assumption | ((try simp only [Nat.zero_add]); refine List.getElem?_set_self ?_; (try simp only [List.length_set]); assumption)); exact rfl; exact rfl; exact rfl; exact rfl) | (apply e_buildn; exact rfl; exact (ty rfl); exact rfl; exact rfl; exact rfl; exact rfl; exact rfl; exact rfl; exact rfl; exact rfl) | (apply e_apo_s; exact rfl; exact rfl; exact rfl; exact (ty rfl); exact rfl; exact rfl; exact (by first | omega | (simp; done) | (simp; omega)); exact (by first | exact List.take_of_length_le (by first | omega | (simp; done) | (simp; omega)) | rfl); exact (ty rfl); exact rfl; exact rfl; exact (by first | omega | (simp; done) | (simp; omega)); exact (by first | exact dt_full (by first | omega | (simp; done) | (simp; omega)) | assumption | rfl); exact rfl; exact (by first | omega | (simp; done) | (simp; omega)); exact (by first | omega | (simp; done) | (simp; omega)); exact (by first | assumption | exact rfl); exact rfl) | (apply e_callU; exact rfl; exact rfl; exact rfl; exact FzL.of rfl; exact hO _; exact rfl)); (try simp only [put, rowsOf, plR, List.all_cons, selE, ovr, setH, del, cellsA, splice, isV, List.nil_append, List.cons_append, List.map_cons, List.map_nil, List.length_cons, List.length_nil, List.set_cons_zero, List.set_cons_succ, List.take_succ_cons, List.take_zero, List.take_nil, List.drop_succ_cons, List.drop_zero, List.drop_nil, List.append_nil, List.all_cons, List.all_nil, Bool.and_true, Bool.true_and, Bool.and_false, Bool.false_and, Nat.reduceAdd, Nat.zero_add, Nat.add_zero, Nat.reduceEqDiff, if_true, if_false, reduceIte]))
    | (show AW _ _ _ _ _ _ _ _; first | refine aw_region ?_ | (refine aw_seqk ?_; intro K hK) | refine aw_block ?_ | (apply aw_cond_t; exact rfl; exact rfl) | (apply aw_cond_f; exact rfl; exact rfl) | refine aw_exit ?_ | refine aw_skip ?_ | refine aw_drawE (id := 22) [0, 0, 3, 7, 15, 31, 0, 64, 255, 0, 0, 1536, 3584, 7680, 0, 32256, 65535, 0, 262143] [0, 0, 0, 0, 0, 1, 0, 1, 2, 0, 0, 0, 0, 0, 0, 0, 0, 3, 2, 2, 0, 4, 0, 11, 0, 13, 0] mixed (by kernel_rfl) ?_ | (apply aw_ite; exact rfl; all_goals intro h))
    | refine thn_n ?_
    | (refine hK _ _ _ ?_; clear hK K)
    | refine thn_e ?_
    | refine inb_same ?_
    | refine inb_n ?_
    | (clear hK K; refine hK _ _ _ ?_; clear hK K))); all_goals (repeat (clear hK K)))
              · have e2 : relaxW Z l.a l.b cost = Z := by rw [hrel]; exact if_neg (fun hh => by simp [hh.2.1] at h)
                refine ⟨1, id, by omega, by omega, ?_⟩
                (try dsimp only); rw [hS, e2, ← hw3]; exact ⟨by (repeat (refine ⟨by first | exact lk_i rfl rfl | exact lk_d rfl rfl | exact lk_v rfl rfl | exact lk_s rfl rfl rfl rfl | exact lk_p rfl rfl, ?_⟩)); exact trivial, by (repeat (refine ⟨by first | exact lknc rfl rfl rfl rfl (by first | rfl | exact all_noOwn_map (fun _ => rfl) | assumption) rfl, ?_⟩)); exact trivial, by rfl, by exact pin_0⟩
              · have e2 := hrel.trans (if_pos ⟨rfl, ‹(p.any fun y => y == l.b) = false›, h⟩)
                refine ⟨1, id, by omega, by omega, ?_⟩
                (try dsimp only); rw [hS, e2, ← hw3]; exact ⟨by (repeat (refine ⟨by first | exact lk_i rfl rfl | exact lk_d rfl rfl | exact lk_v rfl rfl | exact lk_s rfl rfl rfl rfl | exact lk_p rfl rfl, ?_⟩)); exact trivial, by (repeat (refine ⟨by first | exact lknc rfl rfl rfl (by exact hset.symm) (by first | rfl | exact all_noOwn_map (fun _ => rfl) | assumption) rfl, ?_⟩)); exact trivial, by rfl, by exact pin_0⟩
              · have e2 : relaxW Z l.a l.b cost = Z := by rw [hrel]; exact if_neg (fun hh => by rw [hh.2.2] at h; cases h)
                refine ⟨1, id, by omega, by omega, ?_⟩
                (try dsimp only); rw [hS, e2, ← hw3]; exact ⟨by (repeat (refine ⟨by first | exact lk_i rfl rfl | exact lk_d rfl rfl | exact lk_v rfl rfl | exact lk_s rfl rfl rfl rfl | exact lk_p rfl rfl, ?_⟩)); exact trivial, by (repeat (refine ⟨by first | exact lknc rfl rfl rfl rfl (by first | rfl | exact all_noOwn_map (fun _ => rfl) | assumption) rfl, ?_⟩)); exact trivial, by rfl, by exact pin_0⟩
          | 1, _ =>
            have b5 : decide (((1 : Nat) : Int) < 2) = true := by decide
            have b6 : (((1 : Nat) : Int) == 1) = true := by decide
            have hw3 : IntKind.i64.wrap (((1 : Nat) : Int) + 1) = ((2 : Nat) : Int) := by decide
            have hGq := twoW_good hGi h1 h2 hc 1
            have hS : twoW V l.a l.b cost 2 = relaxW (twoW V l.a l.b cost 1) l.b l.a cost := rfl
            generalize twoW V l.a l.b cost 1 = Z at hGq hS ⊢
            have g1 := hGq.at l.b.toNat
            have g2 := hGq.at l.a.toNat
            have hlen := hGq.len
            have k1 : l.b.toNat < Z.length := by omega
            have k2 : l.a.toNat < Z.length := by omega
            have hr1 : (Z.map wyL)[0 + l.b.toNat]? = some (wyL (Z.getD l.b.toNat wyz)) := by simp [List.getD, k1]
            have hr2 : (Z.map wyL)[0 + l.a.toNat]? = some (wyL (Z.getD l.a.toNat wyz)) := by simp [List.getD, k2]
            rw [wyL_eq] at hr1 hr2
            cases hfx : (Z.getD l.b.toNat wyz).f with
            | false =>
              rw [hfx] at hr1
              have e2 : relaxW Z l.b l.a cost = Z := by unfold relaxW; rw [hfx]; simp
              ((repeat' (first
    | (show SQ _ _ _ _ _ _ _ _; first | apply sq_nil | (apply q_move; exact rfl; exact rfl) | (apply q_assign; exact rfl; exact rfl) | (apply q_pick_t; exact rfl; exact rfl; exact rfl; exact (by first | assumption | exact rfl)) | (apply q_fieldAddr; exact rfl; exact rfl; exact (ty rfl); exact rfl; exact rfl; exact rfl; exact rfl) | (apply q_nilc; exact rfl; exact rfl; exact rfl) | (apply q_not; exact rfl; exact rfl) | (apply q_add; exact rfl; exact rfl; exact rfl) | (apply q_eql; exact rfl; exact rfl; exact rfl) | (apply q_lss; exact rfl; exact rfl; exact rfl) | (apply q_ixd; exact rfl; exact rfl; exact rfl; exact (ty rfl); exact rfl; exact (by first | omega | (simp; done) | (simp; omega)); exact (by first | omega | (simp; done) | (simp; omega)); exact (by first | rfl | assumption)) | (apply q_ixl; exact rfl; exact rfl; exact rfl; exact (ty rfl); exact rfl; exact rfl; exact rfl; exact (by first | omega | (simp; done) | (simp; omega)); exact (by first | omega | (simp; done) | (simp; omega))) | (apply q_ld1d; exact rfl; exact rfl; exact (ty rfl); exact rfl; exact rfl) | (apply q_ld1p; exact rfl; exact rfl; exact (ty rfl); exact rfl; exact rfl; exact (by first | rfl | assumption | ((try simp only [Nat.zero_add]); refine List.getElem?_set_self ?_; (try simp only [List.length_set]); assumption)); exact rfl) | (apply q_s; exact rfl; exact rfl; exact rfl; exact (by assumption); exact rfl))
    | (show AW _ _ _ _ _ _ _ _; first | refine aw_region ?_ | (refine aw_seqk ?_; intro K hK) | refine aw_block ?_ | (apply aw_cond_t; exact rfl; exact rfl) | refine aw_exit ?_ | refine aw_skip ?_)
    | refine thn_n ?_
    | (refine hK _ _ _ ?_; clear hK K)
    | refine thn_e ?_
    | refine inb_same ?_
    | (clear hK K; refine hK _ _ _ ?_; clear hK K))); all_goals (repeat (clear hK K)))
              all_goals (refine ⟨2, id, by omega, by omega, ?_⟩; (try dsimp only); rw [hS, e2, ← hw3]; exact ⟨by (repeat (refine ⟨by first | exact lk_i rfl rfl | exact lk_d rfl rfl | exact lk_v rfl rfl | exact lk_s rfl rfl rfl rfl | exact lk_p rfl rfl, ?_⟩)); exact trivial, by (repeat (refine ⟨by first | exact lknc rfl rfl rfl rfl (by first | rfl | exact all_noOwn_map (fun _ => rfl) | assumption) rfl, ?_⟩)); exact trivial, by rfl, by exact pin_0⟩)
            | true =>
              rw [hfx] at hr1
              have hrel : relaxW Z l.b l.a cost = if (true = true ∧ ((Z.getD l.b.toNat wyz).p.any fun z => z == l.a) = false ∧ better (nextW Z l.b l.a cost) (Z.getD l.a.toNat wyz) = true) then Z.set l.a.toNat (nextW Z l.b l.a cost) else Z := by unfold relaxW; rw [hfx]
              have g3 := g1.le (by omega)
              have g4 := g2.le (by omega)
              have u1 := g1.c0
              have u2 := g1.c1
              have hcw : IntKind.i64.wrap ((Z.getD l.b.toNat wyz).c + cost) = (Z.getD l.b.toNat wyz).c + cost := IntWalk.i64_in _ (by omega)
              have hC := l00Has_ro (Z.getD l.b.toNat wyz).p ((Z.getD l.b.toNat wyz).p.map inL) l.a rfl (by omega)
              have hO := l00Own_ro (Z.getD l.b.toNat wyz).p (by omega)
              have hB := l25Better_ro (nextW Z l.b l.a cost) (Z.getD l.a.toNat wyz) (by simp only [nextW, List.length_append, List.length_singleton]; omega) (by omega)
              unfold nextW at hB hrel
              rw [wyL_eq, wyL_eq] at hB
              simp only [List.map_append] at hB
              rw [← hcw] at hB hrel
              have hset : (Z.set l.a.toNat ⟨(Z.getD l.b.toNat wyz).p ++ [l.a], IntKind.i64.wrap ((Z.getD l.b.toNat wyz).c + cost), true⟩).map wyL = (Z.map wyL).set l.a.toNat [.dsl 1 ((Z.getD l.b.toNat wyz).p.map inL ++ [[.v (.int .i64 l.a)]]), .v (.int .i64 (IntKind.i64.wrap ((Z.getD l.b.toNat wyz).c + cost))), .v (.bool true)] := by
                rw [List.map_set, wyL_eq, List.map_append]; rfl
              clear hcw
              generalize (Z.getD l.b.toNat wyz).p = p at *
              generalize (Z.getD l.b.toNat wyz).c = pc at *
              generalize Z.getD l.a.toNat wyz = wy at *
              have hml : (p.map inL).length = p.length := List.length_map _
              have hcl : ((p.map inL ++ [[AV.v (.int .i64 l.a)]]).all noOwnL) = true := by simp [List.all_append, List.all_map, inL, noOwnL, noOwn]
              ((repeat' (first
    | (show SQ _ _ _ _ _ _ _ _; apply sq_frza (t := 138) 0; exact rfl; exact rfl; exact rfl; exact (by first | rfl | exact all_noOwn_map (fun _ => rfl) | assumption); exact (by first | omega | (simp; done) | (simp; omega)); exact (by first | exact dt_full (by first | omega | (simp; done) | (simp; omega)) | assumption | rfl); (try simp only [put, rowsOf, plR, List.all_cons, selE, ovr, setH, del, cellsA, splice, isV, List.nil_append, List.cons_append, List.map_cons, List.map_nil, List.length_cons, List.length_nil, List.set_cons_zero, List.set_cons_succ, List.take_succ_cons, List.take_zero, List.take_nil, List.drop_succ_cons, List.drop_zero, List.drop_nil, List.append_nil, List.all_cons, List.all_nil, Bool.and_true, Bool.true_and, Bool.and_false, Bool.false_and, Nat.reduceAdd, Nat.zero_add, Nat.add_zero, Nat.reduceEqDiff, if_true, if_false, reduceIte]))
    | (show SQ _ _ _ _ _ _ _ _; first | apply sq_nil | (apply q_move; exact rfl; exact rfl) | (apply q_assign; exact rfl; exact rfl) | (apply q_pick_f; exact rfl; exact rfl; exact rfl; exact (by first | assumption | exact rfl)) | (apply q_fieldAddr; exact rfl; exact rfl; exact (ty rfl); exact rfl; exact rfl; exact rfl; exact rfl) | (apply q_nilc; exact rfl; exact rfl; exact rfl) | (apply q_not; exact rfl; exact rfl) | (apply q_add; exact rfl; exact rfl; exact rfl) | (apply q_eql; exact rfl; exact rfl; exact rfl) | (apply q_lss; exact rfl; exact rfl; exact rfl) | (apply q_ixd; exact rfl; exact rfl; exact rfl; exact (ty rfl); exact rfl; exact (by first | omega | (simp; done) | (simp; omega)); exact (by first | omega | (simp; done) | (simp; omega)); exact (by first | rfl | assumption)) | (apply q_ixl; exact rfl; exact rfl; exact rfl; exact (ty rfl); exact rfl; exact rfl; exact rfl; exact (by first | omega | (simp; done) | (simp; omega)); exact (by first | omega | (simp; done) | (simp; omega))) | (apply q_ld1d; exact rfl; exact rfl; exact (ty rfl); exact rfl; exact rfl) | (apply q_ld1p; exact rfl; exact rfl; exact (ty rfl); exact rfl; exact rfl; exact (by first | rfl | assumption | ((try simp only [Nat.zero_add]); refine List.getElem?_set_self ?_; (try simp only [List.length_set]); assumption)); exact rfl) | (apply q_g; exact rfl; exact rfl; exact rfl; exact rfl))
    | (show SQ _ _ _ _ _ _ _ _; (first | (apply q_ldap; exact rfl; exact rfl; exact (ty rfl); exact rfl; exact rfl; exact (by first | rfl | assumption | ((try simp only [Nat.zero_add]); refine List.getElem?_set_self ?_; (try simp only [List.length_set]); assumption)); exact rfl) | (apply q_store; exact rfl; exact rfl; exact (ty rfl); exact rfl; exact (by first | rfl | assumption | ((try simp only [Nat.zero_add]); refine List.getElem?_set_self ?_; (try simp only [List.length_set]); assumption)); exact rfl; exact rfl; exact rfl) | (apply q_callU; exact rfl; exact rfl; exact rfl; exact FzL.of rfl; exact hC _) | (apply q_callU; exact rfl; exact rfl; exact rfl; rotate_left; exact hB _; rotate_right; focus ((repeat' (first | exact FzL.nil | exact (by assumption : FzC _) _ | refine FzL.cons ?_ ?_ | exact Fz.of rfl | exact Fz.nil | exact Fz.emp | (apply Fz.fnC; assumption) | (apply Fz.sl2; exact rfl; exact (by first | omega | (simp; done) | (simp; omega)); first | exact rfl | exact dt_full (by first | omega | (simp; done) | (simp; omega)) | assumption) | apply Fz.agg | (apply Fz.ptrL; exact rfl; first | exact rfl | assumption) | apply Fz.fnL)); done))); (try simp only [put, rowsOf, plR, List.all_cons, selE, ovr, setH, del, cellsA, splice, isV, List.nil_append, List.cons_append, List.map_cons, List.map_nil, List.length_cons, List.length_nil, List.set_cons_zero, List.set_cons_succ, List.take_succ_cons, List.take_zero, List.take_nil, List.drop_succ_cons, List.drop_zero, List.drop_nil, List.append_nil, List.all_cons, List.all_nil, Bool.and_true, Bool.true_and, Bool.and_false, Bool.false_and, Nat.reduceAdd, Nat.zero_add, Nat.add_zero, Nat.reduceEqDiff, if_true, if_false, reduceIte]))
    | (show DE _ _ _ _ _ _ _ _ _ _ _ _; first | (apply e_al3; exact rfl; exact (ty rfl); exact rfl; exact rfl; exact rfl) | (apply e_rdi; exact rfl; exact rfl; exact rfl; exact (ty rfl); exact rfl; exact rfl; exact rfl; exact (by first | omega | (simp; done) | (simp; omega)); exact (by first | omega | (simp; done) | (simp; omega)); exact rfl; exact rfl) | (apply e_move; exact rfl; exact rfl; exact rfl) | (apply e_fieldAddr; exact rfl; exact rfl; exact (ty rfl); exact rfl; exact rfl; exact rfl; exact rfl; exact rfl) | (apply e_add; exact rfl; exact rfl; exact rfl; exact rfl) | (apply e_build; exact rfl; exact (ty rfl); exact rfl; exact rfl; exact rfl; exact rfl))
    | (show DE _ _ _ _ _ _ _ _ _ _ _ _; (first | (apply dr_nil; (focus ((repeat (first | exact trivial | exact Or.inr rfl | exact Or.inl (by kernel_rfl) | apply And.intro)); done))) | (apply e_rd1; exact rfl; exact rfl; exact (ty rfl); exact rfl; exact rfl; exact (by first | rfl | assumption | ((try simp only [Nat.zero_add]); refine List.getElem?_set_self ?_; (try simp only [List.length_set]); assumption)); exact rfl; exact rfl; exact rfl) | (apply e_store; exact rfl; exact rfl; exact (ty rfl); exact rfl; exact (by first | rfl | assumption | ((try simp only [Nat.zero_add]); refine List.getElem?_set_self ?_; (try simp only [List.length_set]); assumption)); exact rfl; exact rfl; exact rfl; exact rfl) | (apply e_buildn; exact rfl; exact (ty rfl); exact rfl; exact rfl; exact rfl; exact rfl; exact rfl; exact rfl; exact rfl; exact rfl) | (apply e_apo_s; exact rfl; exact rfl; exact rfl; exact (ty rfl); exact rfl; exact rfl; exact (by first | omega | (simp; done) | (simp; omega)); exact (by first | exact List.take_of_length_le (by first | omega | (simp; done) | (simp; omega)) | rfl); exact (ty rfl); exact rfl; exact rfl; exact (by first | omega | (simp; done) | (simp; omega)); exact (by first | exact dt_full (by first | omega | (simp; done) | (simp; omega)) | assumption | rfl); exact rfl; exact (by first | omega | (simp; done) | (simp; omega)); exact (by first | omega | (simp; done) | (simp; omega)); exact (by first | assumption | exact rfl); exact rfl) | (apply e_callU; exact rfl; exact rfl; exact rfl; exact FzL.of rfl; exact hO _; exact rfl)); (try simp only [put, rowsOf, plR, List.all_cons, selE, ovr, setH, del, cellsA, splice, isV, List.nil_append, List.cons_append, List.map_cons, List.map_nil, List.length_cons, List.length_nil, List.set_cons_zero, List.set_cons_succ, List.take_succ_cons, List.take_zero, List.take_nil, List.drop_succ_cons, List.drop_zero, List.drop_nil, List.append_nil, List.all_cons, List.all_nil, Bool.and_true, Bool.true_and, Bool.and_false, Bool.false_and, Nat.reduceAdd, Nat.zero_add, Nat.add_zero, Nat.reduceEqDiff, if_true, if_false, reduceIte]))
    | (show AW _ _ _ _ _ _ _ _; first | refine aw_region ?_ | (refine aw_seqk ?_; intro K hK) | refine aw_block ?_ | (apply aw_cond_t; exact rfl; exact rfl) | refine aw_exit ?_ | refine aw_skip ?_ | refine aw_drawE (id := 22) [0, 0, 3, 7, 15, 31, 0, 64, 255, 0, 0, 1536, 3584, 7680, 0, 32256, 65535, 0, 262143] [0, 0, 0, 0, 0, 1, 0, 1, 2, 0, 0, 0, 0, 0, 0, 0, 0, 3, 2, 2, 0, 4, 0, 11, 0, 13, 0] mixed (by kernel_rfl) ?_ | (apply aw_ite; exact rfl; all_goals intro h))
    | refine thn_n ?_
    | (refine hK _ _ _ ?_; clear hK K)
    | refine thn_e ?_
    | refine inb_same ?_
    | refine inb_n ?_
    | (clear hK K; refine hK _ _ _ ?_; clear hK K))); all_goals (repeat (clear hK K)))
              · have e2 : relaxW Z l.b l.a cost = Z := by rw [hrel]; exact if_neg (fun hh => by simp [hh.2.1] at h)
                refine ⟨2, id, by omega, by omega, ?_⟩
                (try dsimp only); rw [hS, e2, ← hw3]; exact ⟨by (repeat (refine ⟨by first | exact lk_i rfl rfl | exact lk_d rfl rfl | exact lk_v rfl rfl | exact lk_s rfl rfl rfl rfl | exact lk_p rfl rfl, ?_⟩)); exact trivial, by (repeat (refine ⟨by first | exact lknc rfl rfl rfl rfl (by first | rfl | exact all_noOwn_map (fun _ => rfl) | assumption) rfl, ?_⟩)); exact trivial, by rfl, by exact pin_0⟩
              · have e2 := hrel.trans (if_pos ⟨rfl, ‹(p.any fun y => y == l.a) = false›, h⟩)
                refine ⟨2, id, by omega, by omega, ?_⟩
                (try dsimp only); rw [hS, e2, ← hw3]; exact ⟨by (repeat (refine ⟨by first | exact lk_i rfl rfl | exact lk_d rfl rfl | exact lk_v rfl rfl | exact lk_s rfl rfl rfl rfl | exact lk_p rfl rfl, ?_⟩)); exact trivial, by (repeat (refine ⟨by first | exact lknc rfl rfl rfl (by exact hset.symm) (by first | rfl | exact all_noOwn_map (fun _ => rfl) | assumption) rfl, ?_⟩)); exact trivial, by rfl, by exact pin_0⟩
              · have e2 : relaxW Z l.b l.a cost = Z := by rw [hrel]; exact if_neg (fun hh => by rw [hh.2.2] at h; cases h)
                refine ⟨2, id, by omega, by omega, ?_⟩
                (try dsimp only); rw [hS, e2, ← hw3]; exact ⟨by (repeat (refine ⟨by first | exact lk_i rfl rfl | exact lk_d rfl rfl | exact lk_v rfl rfl | exact lk_s rfl rfl rfl rfl | exact lk_p rfl rfl, ?_⟩)); exact trivial, by (repeat (refine ⟨by first | exact lknc rfl rfl rfl rfl (by first | rfl | exact all_noOwn_map (fun _ => rfl) | assumption) rfl, ?_⟩)); exact trivial, by rfl, by exact pin_0⟩
          | 2, _ =>
            have b5 : decide (((2 : Nat) : Int) < 2) = false := by decide
            ((repeat' (first
    | (show SQ _ _ _ _ _ _ _ _; first | apply sq_nil | (apply q_move; exact rfl; exact rfl) | (apply q_assign; exact rfl; exact rfl) | (apply q_add; exact rfl; exact rfl; exact rfl) | (apply q_lss; exact rfl; exact rfl; exact rfl))
    | (show AW _ _ _ _ _ _ _ _; first | refine aw_region ?_ | (refine aw_seqk ?_; intro K hK) | (apply aw_cond_f; exact rfl; exact rfl) | refine aw_exit ?_)
    | refine thn_n ?_
    | (refine hK _ _ _ ?_; clear hK K)
    | refine thn_e ?_
    | refine inb_same ?_
    | refine inb_n ?_
    | (clear hK K; refine hK _ _ _ ?_; clear hK K))); all_goals (repeat (clear hK K)))
            all_goals (refine ⟨i + 1, id, c2, by omega, ?_⟩; (try dsimp only); rw [e1, ← hw2]; exact ⟨by (repeat (refine ⟨by first | exact lk_i rfl rfl | exact lk_d rfl rfl | exact lk_v rfl rfl | exact lk_s rfl rfl rfl rfl | exact lk_p rfl rfl, ?_⟩)); exact trivial, by (repeat (refine ⟨by first | exact lknc rfl rfl rfl rfl (by first | rfl | exact all_noOwn_map (fun _ => rfl) | assumption) rfl, ?_⟩)); exact trivial, by rfl, by exact pin_0⟩)
          | q + 3, hq => exact absurd hq (by omega)
    · have b2 : decide ((i : Int) < ((ls.map lnL).length : Int)) = false := by simpa using c2
      obtain rfl : i = ls.length := by omega
      ((repeat' (first
    | (show SQ _ _ _ _ _ _ _ _; first | apply sq_nil | (apply q_move; exact rfl; exact rfl) | (apply q_assign; exact rfl; exact rfl) | (apply q_fieldAddr; exact rfl; exact rfl; exact (ty rfl); exact rfl; exact rfl; exact rfl; exact rfl) | (apply q_nilc; exact rfl; exact rfl; exact rfl) | (apply q_lend; exact rfl; exact rfl; exact (ty rfl); exact rfl) | (apply q_add; exact rfl; exact rfl; exact rfl) | (apply q_lss; exact rfl; exact rfl; exact rfl) | (apply q_ld1d; exact rfl; exact rfl; exact (ty rfl); exact rfl; exact rfl))
    | (show AW _ _ _ _ _ _ _ _; first | refine aw_region ?_ | (refine aw_seqk ?_; intro K hK) | (apply aw_cond_f; exact rfl; exact (by assumption)) | refine aw_exit ?_)
    | refine thn_n ?_
    | (refine hK _ _ _ ?_; clear hK K)
    | refine thn_e ?_
    | refine inb_same ?_
    | refine inb_n ?_
    | (clear hK K; refine hK _ _ _ ?_; clear hK K))); all_goals (repeat (clear hK K)))
      all_goals (refine ⟨t + 1, id, c1, by omega, ?_⟩; (try dsimp only); rw [hN1, ← hw1]; exact ⟨by (repeat (refine ⟨by first | exact lk_i rfl rfl | exact lk_d rfl rfl | exact lk_v rfl rfl | exact lk_s rfl rfl rfl rfl | exact lk_p rfl rfl, ?_⟩)); exact trivial, by (repeat (refine ⟨by first | exact lknc rfl rfl rfl rfl (by first | rfl | exact all_noOwn_map (fun _ => rfl) | assumption) rfl, ?_⟩)); exact trivial, by rfl, by exact pin_0⟩)
  · have b1 : decide ((t : Int) < n) = false := by simp only [decide_eq_false_iff_not]; omega
    obtain rfl : t = n.toNat := by omega
    have hlen := hG.len
    have k1 : to.toNat < (waysN n ls may counts frm n.toNat).length := by omega
    have hr1 : ((waysN n ls may counts frm n.toNat).map wyL)[0 + to.toNat]? = some (wyL (routeW n ls may counts frm to)) := by simp [routeW, List.getD, k1]
    rw [wyL_eq] at hr1
    generalize routeW n ls may counts frm to = R at *
    ((repeat' (first
    | (show SQ _ _ _ _ _ _ _ _; first | apply sq_nil | (apply q_move; exact rfl; exact rfl) | (apply q_fieldAddr; exact rfl; exact rfl; exact (ty rfl); exact rfl; exact rfl; exact rfl; exact rfl) | (apply q_nilc; exact rfl; exact rfl; exact rfl) | (apply q_lss; exact rfl; exact rfl; exact rfl) | (apply q_ld1d; exact rfl; exact rfl; exact (ty rfl); exact rfl; exact rfl))
    | (show DE _ _ _ _ _ _ _ _ _ _ _ _; first | (apply e_move; exact rfl; exact rfl; exact rfl) | (apply e_assign; exact rfl; exact rfl; exact rfl) | (apply e_fieldAddr; exact rfl; exact rfl; exact (ty rfl); exact rfl; exact rfl; exact rfl; exact rfl; exact rfl) | (apply e_ixl; exact rfl; exact rfl; exact rfl; exact (ty rfl); exact rfl; exact rfl; exact rfl; exact (by first | omega | (simp; done) | (simp; omega)); exact (by first | omega | (simp; done) | (simp; omega)); exact rfl) | (apply e_ld1p; exact rfl; exact rfl; exact (ty rfl); exact rfl; exact rfl; exact (by first | rfl | assumption | ((try simp only [Nat.zero_add]); refine List.getElem?_set_self ?_; (try simp only [List.length_set]); assumption)); exact rfl; exact rfl))
    | (show DE _ _ _ _ _ _ _ _ _ _ _ _; (first | (apply dr_nil; exact trivial)); (try simp only [put, rowsOf, plR, List.all_cons, selE, ovr, setH, del, cellsA, splice, isV, List.nil_append, List.cons_append, List.map_cons, List.map_nil, List.length_cons, List.length_nil, List.set_cons_zero, List.set_cons_succ, List.take_succ_cons, List.take_zero, List.take_nil, List.drop_succ_cons, List.drop_zero, List.drop_nil, List.append_nil, List.all_cons, List.all_nil, Bool.and_true, Bool.true_and, Bool.and_false, Bool.false_and, Nat.reduceAdd, Nat.zero_add, Nat.add_zero, Nat.reduceEqDiff, if_true, if_false, reduceIte]))
    | (show AW _ _ _ _ _ _ _ _; first | refine aw_region ?_ | (refine aw_seqk ?_; intro K hK) | (apply aw_cond_f; exact rfl; exact (by assumption)) | refine aw_ret ?_ | refine aw_exit ?_ | refine aw_drawE (id := 25) [0, 0, 3, 7, 15, 0, 0, 96, 224, 480, 31, 2047] [0, 0, 1, 0, 1, 0, 0, 1, 0, 1, 0, 0] mixed (by kernel_rfl) ?_)
    | refine thn_n ?_
    | (refine hK _ _ _ ?_; clear hK K)
    | refine thn_e ?_
    | refine inb_same ?_
    | (clear hK K; refine hK _ _ _ ?_; clear hK K))); all_goals (repeat (clear hK K)))
    all_goals exact finc id (.r2 _ _ _ _ (.tmp _ _ rfl) (.tmp _ _ rfl)) (by simp only [renA, renL]) (fun _ _ => rfl) trivial rfl
end Go.Proofs.Ytglfcaioapdiaaa.Bk
