/-
  What the law FnRepair rests on, part 3.
-/
import Derived.Test.YteknfaldpajlpaaZFnRepair2
namespace Go.Proofs.Yteknfaldpajlpaa.Fg
open Go.ChangeShapes Go.WideShapes Go.ChangeAt Go.RowKit Go.Deep
open Go.ChangeMaps (open_string shut_string)
set_option linter.unusedSimpArgs false
def SlV {α : Type} (cV : α → List Value) (sz : Nat) (w : World) (v : Value) (xs : List α) : Prop :=
  Aw.VR (fun k => k < w.heap.size) w (fun _ => ⟨0, 0, 0, false⟩) Aw.NoS (.dsl sz (xs.map fun a => (cV a).map .v)) v ∧ xs.length ≤ 9223372036854775807
section
variable {P : Program} {H : Type} {enc : TypeId × Value → H} {W : World} {r : Reach} {b0 base : Nat} {spare : Nat → Bool} {held : Bool} {v : Value} {d : DataW H} {p : List MemPlace}
theorem sl_open {t e : TypeId} {sz : Nat} {α : Type} [Inhabited α] {cV : α → List Value} {Q : α → Prop} {fuel : Nat} {x : DataW H × List MemPlace} (hU : P.underlying t = some (.slice e)) (hcells : P.cellsOf e = sz) (hsz : 0 < sz) (hlen : ∀ a, (cV a).length = sz)
    (hone : ∀ a, ∀ y ∈ cV a, y.oneCell' = true) (hel : ∀ fuel cs x, DataW.trod enc P W base spare held fuel e cs = some x → ∃ a, cs = cV a ∧ Q a) (h : DataW.trod enc P W base spare held fuel t [v] = some x) :
    ∃ xs : List α, SlV cV sz W v xs ∧ ∀ a ∈ xs, Q a := by
  rcases open_slice hU h with ⟨hc, _⟩ | ⟨a, len, cap, m, n, D, Pl, hc, hb, hl, hm, hmm, _, hels⟩
  · simp only [List.cons.injEq, and_true] at hc
    subst hc
    exact ⟨[], ⟨.dsl0 _ _ _ _, by simp⟩, by simp⟩
  · simp only [List.cons.injEq, and_true] at hc
    subst hc
    have hlm : len ≤ m := by rw [hmm]; split <;> omega
    obtain ⟨f, hf2⟩ := choose_lt (n := len) (p := fun i (l : α) => W.cells? base (a.add (i * sz)) sz = some (cV l) ∧ Q l) fun i hi => by
      obtain ⟨cs', h1, h2⟩ := hels i (by omega)
      rw [hcells] at h1
      obtain ⟨l, rfl, hs⟩ := hel _ _ _ h2
      exact ⟨l, h1, hs⟩
    refine ⟨(List.range len).map f, ⟨?_, by simp only [maxLen] at hm; simp; omega⟩, fun l hl => ?_⟩
    · obtain ⟨b, off, spot⟩ := a
      cases len with
      | zero => exact .dsl0 _ _ _ _
      | succ len =>
        have hc0 : ∀ r, r < len + 1 → ∀ j, j < sz → W.cell? ((⟨b, off, spot⟩ : Addr).add (r * sz + j)) = (cV (f r))[j]? := fun r hr j hj => by
          obtain ⟨_, _, hc⟩ := World.cells?_some (hf2 r hr).1
          rw [← add_add]
          exact hc j hj
        obtain ⟨y0, hy0⟩ : ∃ y0, (cV (f 0))[0]? = some y0 := ⟨_, List.getElem?_eq_getElem (by rw [hlen]; exact hsz)⟩
        have h2 : W.cell? ((⟨b, off, spot⟩ : Addr).add 0) = some y0 := by
          have := hc0 0 (by omega) 0 hsz
          simp only [Nat.zero_mul, Nat.add_zero] at this
          rw [this, hy0]
        have hspot : spot = none := by simpa [Addr.add] using World.cell?_spot h2
        subst hspot
        have hlt : b < W.heap.size := block_lt_of_cell h2
        have get : ∀ (l : α) (j : Nat) (cv : Aw.AV), ((cV l).map Aw.AV.v)[j]? = some cv → ∃ y, (cV l)[j]? = some y ∧ cv = .v y ∧ y.oneCell' = true := fun l j cv h => by
          rw [List.getElem?_map] at h
          cases hj : (cV l)[j]? with
          | none => simp [hj] at h
          | some y =>
            simp only [hj, Option.map_some, Option.some.injEq] at h
            exact ⟨y, rfl, h.symm, hone l y (List.mem_of_getElem? hj)⟩
        refine .dsl _ sz _ _ b off cap (fun r j => ((cV (f r))[j]?).getD undef) (by simp) (by simpa using hl) hlt (fun r row hr => ?_) (fun r row j cv hr hj => ?_) (fun r row j cv hr hj => ?_)
        all_goals
          rw [List.getElem?_map, List.getElem?_map] at hr
          have hrl : r < len + 1 := by
            rcases Nat.lt_or_ge r (len + 1) with h | h
            · exact h
            · rw [List.getElem?_eq_none (by simpa using h)] at hr; simp at hr
          rw [List.getElem?_range hrl] at hr
          simp only [Option.map_some, Option.some.injEq] at hr
          subst hr
        · simp [hlen]
        · obtain ⟨y, hy, rfl, hone⟩ := get _ _ _ hj
          have hjl : j < sz := by rw [← hlen (f r)]; exact (List.getElem?_eq_some_iff.1 hy).1
          have := hc0 r hrl j hjl
          rw [Go.WideShapes.add_plain] at this
          simp only [hy, Option.getD_some]
          refine ⟨?_, hone⟩
          rw [Nat.add_assoc, this, hy]
        · obtain ⟨y, hy, rfl, hone⟩ := get _ _ _ hj
          simp only [hy, Option.getD_some]
          exact .v _ _
    · obtain ⟨i, hi, rfl⟩ := List.mem_map.1 hl
      exact (hf2 i (by simpa using hi)).2
theorem sl_cell {t e : TypeId} (hU : P.underlying t = some (.slice e)) (hv : Value.okWide P W r b0 t v) : v.cells.toList = [v] := by
  have hsl : ∃ a n c, v = .slice a n c := by
    simp only [Value.okWide, hU, Cell.okWide] at hv
    cases v <;> simp_all [Cell.ok]
  obtain ⟨a, n, c, rfl⟩ := hsl
  rfl
end
end Go.Proofs.Yteknfaldpajlpaa.Fg
namespace Go.Proofs.Yteknfaldpajlpaa.Fr
open Go.ChangeShapes Go.WideShapes Go.ChangeAt Go.RowKit Go.Deep
open Go.Proofs.Yteknfaldpajlpaa.Sr Go.Proofs.Yteknfaldpajlpaa.Fg
def byC (x : Int) : List Value := [.int .u8 x]
def IsBytes (w : World) (v : Value) : Prop := ∃ bs : List Int, Aw.VR (fun k => k < w.heap.size) w (fun _ => ⟨0, 0, 0, false⟩) Aw.NoS (.dsl 1 (byL bs)) v ∧ (∀ b ∈ bs, 0 ≤ b ∧ b ≤ 255) ∧ bs.length ≤ 9223372036854775807
section
variable {H : Type} {enc : TypeId × Value → H} {W : World} {r : Reach} {b0 base : Nat} {spare : Nat → Bool} {held : Bool} {v : Value} {d : DataW H} {p : List MemPlace}
theorem cellsByte : Try.prog.cellsOf 5 = 1 := by kernel_rfl
theorem byte_cells {fuel : Nat} {cs : List Value} {x : DataW H × List MemPlace} (h : DataW.trod enc Try.prog W base spare held fuel 5 cs = some x) : ∃ n : Int, cs = byC n ∧ (0 ≤ n ∧ n ≤ 255) := by
  obtain ⟨n, e, _, w⟩ := DataW.trod_int Try.underlying5 h
  have := bounds_u8 w
  exact ⟨n, e, by omega⟩
set_option maxRecDepth 100000 in
theorem isBytes_of (hv : Value.okWide Try.prog W r b0 33 v) (h : DataW.Trod enc Try.prog W base spare held 33 v d p) : IsBytes W v := by
  obtain ⟨fuel, hf⟩ := h
  rw [sl_cell Try.underlying33 hv] at hf
  obtain ⟨xs, h1, h2⟩ := sl_open (Q := fun n => 0 ≤ n ∧ n ≤ 255) Try.underlying33 cellsByte (by omega) (fun _ => rfl) (fun a y hy => by simp [byC] at hy; subst hy; rfl) (fun _ _ _ h => byte_cells h) hf
  exact ⟨xs, h1.1, h2, h1.2⟩
end
end Go.Proofs.Yteknfaldpajlpaa.Fr

namespace Go.Proofs.Yteknfaldpajlpaa.Wk
open Go.RowKit
def inB (n lo hi : Int) : Bool := decide (lo ≤ n ∧ n ≤ hi)
end Go.Proofs.Yteknfaldpajlpaa.Wk

namespace Go.Proofs.Yteknfaldpajlpaa.Nm
open Go.RowKit Go.Proofs.Yteknfaldpajlpaa.Wk
def chr (s : ByteArray) (i : Nat) : Int := ((s.data.toList.getD i 0).toNat : Int)
def smB (c : Int) : Bool := decide (97 ≤ c ∧ c ≤ 122)
def dgB (c : Int) : Bool := decide (48 ≤ c ∧ c ≤ 57)
def okC (s : ByteArray) (i : Nat) : Bool := smB (chr s i) || dgB (chr s i)
end Go.Proofs.Yteknfaldpajlpaa.Nm

namespace Go.Proofs.Yteknfaldpajlpaa.In
open Go Go.RowKit Go.Proofs.Yteknfaldpajlpaa.Aw
set_option linter.unusedSimpArgs false
set_option linter.unusedVariables false
attribute [local irreducible] AW SQ Step RO RC DE Thn InB
def inB (n lo hi : Int) : Bool := decide (lo ≤ n) && decide (n ≤ hi)
set_option maxHeartbeats 4000000 in
theorem within_ro (n lo hi : Int) (k : Nat) : RO Try.prog 55 [.v (.int .i64 n), .v (.int .i64 lo), .v (.int .i64 hi)] k (.v (.bool (inB n lo hi))) [] k := by
  refine RO.ofv' Try.func55 Try.ntmps55 rfl (goFn_of Try.func55 rfl (by kernel_rfl)) rfl rfl ?_
  ((repeat' (first
    | (show SQ _ _ _ _ _ _ _ _; first | apply sq_nil | (apply q_move; exact rfl; exact rfl) | (apply q_assign; exact rfl; exact rfl) | (apply q_pick_t; exact rfl; exact rfl; exact rfl; exact (by first | assumption | exact rfl)) | (apply q_pick_f; exact rfl; exact rfl; exact rfl; exact (by first | assumption | exact rfl)) | (apply q_leq; exact rfl; exact rfl; exact rfl) | (apply q_geq; exact rfl; exact rfl; exact rfl) | (apply q_g; exact rfl; exact rfl; exact rfl; exact (by assumption)) | (apply q_s; exact rfl; exact rfl; exact rfl; exact (by assumption); exact rfl))
    | (show SQ _ _ _ _ _ _ _ _; apply q_gs; exact rfl; exact rfl; exact rfl; exact rfl; all_goals intro h)
    | (show AW _ _ _ _ _ _ _ _; first | refine aw_region ?_ | (refine aw_seqk ?_; intro K hK) | refine aw_ret ?_)
    | refine thn_n ?_
    | (refine hK _ _ _ ?_; clear hK K))); all_goals (repeat (clear hK K)))
  all_goals refine fin_r (fin_b rfl ?_)
  all_goals simp_all [inB]
  all_goals omega
end Go.Proofs.Yteknfaldpajlpaa.In

namespace Go.Proofs.Yteknfaldpajlpaa.Il
open Go Go.RowKit Go.Proofs.Yteknfaldpajlpaa.Aw Go.Proofs.Yteknfaldpajlpaa.In
set_option linter.unusedSimpArgs false
set_option linter.unusedVariables false
attribute [local irreducible] AW SQ Step RO RC DE Thn InB
def inL (x : Int) : List AV := [.v (.int .i64 x)]
theorem inL_eq (x : Int) : inL x = [.v (.int .i64 x)] := rfl
def ramp {α : Type} (f : Nat → α) (xs : List α) (i : Nat) : List α := (List.range i).map f ++ xs.drop i
theorem ramp_set {α : Type} {f : Nat → α} {xs : List α} {i : Nat} (h : i < xs.length) : (ramp f xs i).set i (f i) = ramp f xs (i + 1) := by
  unfold ramp
  rw [List.drop_eq_getElem_cons h, List.set_append_right _ _ (by simp), List.range_succ]
  simp only [List.length_map, List.length_range, Nat.sub_self, List.set_cons_zero, List.map_append, List.map_cons, List.map_nil, List.append_assoc, List.singleton_append]
theorem ramp_zero {α : Type} {f : Nat → α} {xs : List α} : ramp f xs 0 = xs := by simp [ramp]
theorem ramp_full {α : Type} {f : Nat → α} {xs : List α} : ramp f xs xs.length = (List.range xs.length).map f := by simp [ramp]
def ixG {α : Type} (p : α → Bool) : List α → Int
  | [] => -1
  | x :: xs => if p x then 0 else if ixG p xs < 0 then -1 else ixG p xs + 1
theorem ixG_any {α : Type} (p : α → Bool) : ∀ xs, decide (0 ≤ ixG p xs) = xs.any p
  | [] => rfl
  | x :: xs => by
    have ih := ixG_any p xs
    simp only [ixG, List.any_cons]
    by_cases h : p x
    · simp [h]
    · simp only [h, Bool.false_or, Bool.false_eq_true, if_false]
      rw [← ih]
      split
      · rename_i h2; simp; omega
      · rename_i h2; simp; omega
theorem ixG_at {α : Type} (p : α → Bool) : ∀ (pre : List α) (x : α) (r : List α), (∀ y ∈ pre, p y = false) → p x = true → ixG p (pre ++ x :: r) = pre.length
  | [], x, r, _, h => by simp [ixG, h]
  | y :: pre, x, r, h, hx => by
    have ih := ixG_at p pre x r (fun z hz => h z (List.mem_cons_of_mem _ hz)) hx
    simp only [List.cons_append, ixG, h y List.mem_cons_self, Bool.false_eq_true, if_false, ih]
    rw [if_neg (by omega)]
    simp
theorem ixG_none {α : Type} (p : α → Bool) : ∀ (xs : List α), (∀ y ∈ xs, p y = false) → ixG p xs = -1
  | [], _ => rfl
  | y :: xs, h => by simp [ixG, h y List.mem_cons_self, ixG_none p xs fun z hz => h z (List.mem_cons_of_mem _ hz)]
theorem ixG_hit {α : Type} {p : α → Bool} {xs : List α} {i : Nat} (hi : i < xs.length) (h : ∀ y ∈ xs.take i, p y = false) (hx : p xs[i] = true) : ixG p xs = i := by
  have := ixG_at p (xs.take i) xs[i] (xs.drop (i + 1)) h hx
  rw [← List.drop_eq_getElem_cons hi, List.take_append_drop] at this
  rw [this]; simp; omega
theorem takeS {α : Type} {p : α → Bool} {xs : List α} {i : Nat} (hi : i < xs.length) (h : ∀ y ∈ xs.take i, p y = false) (hx : p xs[i] = false) : ∀ y ∈ xs.take (i + 1), p y = false := by
  intro y hy
  rw [List.take_succ_eq_append_getElem hi] at hy
  rcases List.mem_append.1 hy with h1 | h1
  · exact h y h1
  · simp at h1; subst h1; exact hx
set_option maxHeartbeats 4000000 in
theorem IndexFuncInt_ro (xs : List Int) (rows : List (List AV)) (f : FuncId) (caps : List AV) (p : Int → Bool) (hcap : idsOkL 0 caps = true) (hz : FzC caps) (hrows : rows = xs.map inL) (hf : ∀ x ∈ xs, ∀ m, RO Try.prog f ((.v (.int .i64 x)) :: caps) m (.v (.bool (p x))) [] m) (hn : xs.length ≤ 1048576) (k : Nat) :
    RO Try.prog 90 [.dsl 1 rows, .fn f caps] k (.v (.int .i64 (ixG p xs))) [] k := by
  subst hrows
  refine RO.ofv' Try.func90 Try.ntmps90 rfl (goFn_of Try.func90 rfl (by kernel_rfl)) rfl rfl ?_
  ((repeat' (first
    | (show SQ _ _ _ _ _ _ _ _; first | apply sq_nil | (apply q_move; exact rfl; exact rfl) | (apply q_assign; exact rfl; exact rfl) | (apply q_lend; exact rfl; exact rfl; exact (ty rfl); exact rfl))
    | (show AW _ _ _ _ _ _ _ _; first | refine aw_region ?_ | (refine aw_seqk ?_; intro K hK) | refine aw_block ?_)
    | refine thn_n ?_
    | (refine hK _ _ _ ?_; clear hK K))); all_goals (repeat (clear hK K)))
  refine aw_loop (ρ := id) (ι := Nat) (fun i => ([(8, .v (.int .i64 i)), (7, .v (.int .i64 xs.length)), (1, .fn f caps), (0, .dsl 1 (xs.map inL))], [], 0))
    (fun i => i ≤ xs.length ∧ ∀ y ∈ xs.take i, p y = false) (fun i => xs.length - i) 0 ⟨Nat.zero_le _, by simp⟩ ⟨⟨lk_i rfl rfl, lk_i rfl (by simp), lk_f rfl (renL_id caps) hcap, lk_d rfl rfl, trivial⟩, trivial, rfl, pin_0⟩ ?_
  rintro i ⟨hi, hp⟩
  by_cases c2 : i < xs.length
  · have b2 : decide ((i : Int) < (xs.length : Int)) = true := by simpa using c2
    have hrow : (xs.map inL)[((i : Int)).toNat]? = some (inL xs[i]) := by simp [c2]
    try rw [inL_eq] at hrow
    have hc := hf xs[i] (List.getElem_mem c2)
    by_cases c3 : p xs[i] = true
    · ((repeat' (first
    | (show SQ _ _ _ _ _ _ _ _; first | apply sq_nil | (apply q_move; exact rfl; exact rfl) | (apply q_assign; exact rfl; exact rfl) | (apply q_lss; exact rfl; exact rfl; exact rfl) | (apply q_ixd; exact rfl; exact rfl; exact rfl; exact (ty rfl); exact rfl; exact (by first | omega | (simp; done) | (simp; omega)); exact (by first | omega | (simp; done) | (simp; omega)); exact (by first | rfl | assumption)) | (apply q_ld1d; exact rfl; exact rfl; exact (ty rfl); exact rfl; exact rfl))
    | (show SQ _ _ _ _ _ _ _ _; (first | (apply q_callU; exact rfl; exact rfl; exact rfl; rotate_left; exact hc _; rotate_right; focus ((repeat' (first | exact FzL.nil | exact (by assumption : FzC _) _ | refine FzL.cons ?_ ?_ | exact Fz.of rfl | exact Fz.nil | exact Fz.emp | (apply Fz.fnC; assumption) | (apply Fz.sl2; exact rfl; exact (by first | omega | (simp; done) | (simp; omega)); first | exact rfl | exact dt_full (by first | omega | (simp; done) | (simp; omega)) | assumption) | apply Fz.agg | (apply Fz.ptrL; exact rfl; first | exact rfl | assumption) | apply Fz.fnL)); done))); (try simp only [put, rowsOf, plR, List.all_cons, selE, ovr, setH, del, cellsA, splice, isV, List.nil_append, List.cons_append, List.map_cons, List.map_nil, List.length_cons, List.length_nil, List.set_cons_zero, List.set_cons_succ, List.take_succ_cons, List.take_zero, List.take_nil, List.drop_succ_cons, List.drop_zero, List.drop_nil, List.append_nil, List.all_cons, List.all_nil, Bool.and_true, Bool.true_and, Bool.and_false, Bool.false_and, Nat.reduceAdd, Nat.zero_add, Nat.add_zero, Nat.reduceEqDiff, if_true, if_false, reduceIte]))
    | (show AW _ _ _ _ _ _ _ _; first | refine aw_region ?_ | (refine aw_seqk ?_; intro K hK) | refine aw_block ?_ | (apply aw_cond_t; exact rfl; exact (by assumption)) | refine aw_ret ?_ | refine aw_skip ?_)
    | refine thn_n ?_
    | (refine hK _ _ _ ?_; clear hK K)
    | refine thn_r ?_
    | refine inb_r ?_)); all_goals (repeat (clear hK K)))
      all_goals refine fin_r (fin_i rfl ?_)
      exact (ixG_hit c2 hp c3).symm
    · have c3 : p xs[i] = false := by simpa using c3
      ((repeat' (first
    | (show SQ _ _ _ _ _ _ _ _; first | apply sq_nil | (apply q_move; exact rfl; exact rfl) | (apply q_assign; exact rfl; exact rfl) | (apply q_add; exact rfl; exact rfl; exact rfl) | (apply q_lss; exact rfl; exact rfl; exact rfl) | (apply q_ixd; exact rfl; exact rfl; exact rfl; exact (ty rfl); exact rfl; exact (by first | omega | (simp; done) | (simp; omega)); exact (by first | omega | (simp; done) | (simp; omega)); exact (by first | rfl | assumption)) | (apply q_ld1d; exact rfl; exact rfl; exact (ty rfl); exact rfl; exact rfl))
    | (show SQ _ _ _ _ _ _ _ _; (first | (apply q_callU; exact rfl; exact rfl; exact rfl; rotate_left; exact hc _; rotate_right; focus ((repeat' (first | exact FzL.nil | exact (by assumption : FzC _) _ | refine FzL.cons ?_ ?_ | exact Fz.of rfl | exact Fz.nil | exact Fz.emp | (apply Fz.fnC; assumption) | (apply Fz.sl2; exact rfl; exact (by first | omega | (simp; done) | (simp; omega)); first | exact rfl | exact dt_full (by first | omega | (simp; done) | (simp; omega)) | assumption) | apply Fz.agg | (apply Fz.ptrL; exact rfl; first | exact rfl | assumption) | apply Fz.fnL)); done))); (try simp only [put, rowsOf, plR, List.all_cons, selE, ovr, setH, del, cellsA, splice, isV, List.nil_append, List.cons_append, List.map_cons, List.map_nil, List.length_cons, List.length_nil, List.set_cons_zero, List.set_cons_succ, List.take_succ_cons, List.take_zero, List.take_nil, List.drop_succ_cons, List.drop_zero, List.drop_nil, List.append_nil, List.all_cons, List.all_nil, Bool.and_true, Bool.true_and, Bool.and_false, Bool.false_and, Nat.reduceAdd, Nat.zero_add, Nat.add_zero, Nat.reduceEqDiff, if_true, if_false, reduceIte]))
    | (show AW _ _ _ _ _ _ _ _; first | refine aw_region ?_ | (refine aw_seqk ?_; intro K hK) | refine aw_block ?_ | (apply aw_cond_t; exact rfl; exact (by assumption)) | (apply aw_cond_f; exact rfl; exact (by assumption)) | refine aw_skip ?_)
    | refine thn_n ?_
    | (refine hK _ _ _ ?_; clear hK K)
    | refine inb_n ?_)); all_goals (repeat (clear hK K)))
      refine ⟨i + 1, id, ⟨c2, takeS c2 hp c3⟩, by omega, ⟨lk_i rfl (by rw [IntWalk.i64_in _ (by omega)]; rfl), lk_i rfl rfl, lk_f rfl (renL_id caps) hcap, lk_d rfl rfl, trivial⟩, trivial, rfl, pin_0⟩
  · have b2 : decide ((i : Int) < (xs.length : Int)) = false := by simpa using c2
    ((repeat' (first
    | (show SQ _ _ _ _ _ _ _ _; first | apply sq_nil | (apply q_assign; exact rfl; exact rfl) | (apply q_lss; exact rfl; exact rfl; exact rfl))
    | (show AW _ _ _ _ _ _ _ _; first | refine aw_region ?_ | (refine aw_seqk ?_; intro K hK) | (apply aw_cond_f; exact rfl; exact (by assumption)) | refine aw_ret ?_ | refine aw_exit ?_)
    | refine thn_n ?_
    | (refine hK _ _ _ ?_; clear hK K)
    | refine thn_e ?_
    | refine inb_same ?_
    | (clear hK K; refine hK _ _ _ ?_; clear hK K))); all_goals (repeat (clear hK K)))
    all_goals refine fin_r (fin_i rfl ?_)
    rw [List.take_of_length_le (by omega)] at hp
    exact (ixG_none p xs hp).symm
set_option maxHeartbeats 4000000 in
theorem ContainsFuncInt_ro (xs : List Int) (rows : List (List AV)) (f : FuncId) (caps : List AV) (p : Int → Bool) (hcap : idsOkL 0 caps = true) (hz : FzC caps) (hrows : rows = xs.map inL) (hf : ∀ x ∈ xs, ∀ m, RO Try.prog f (.v (.int .i64 x) :: caps) m (.v (.bool (p x))) [] m) (hn : xs.length ≤ 1048576) (k : Nat) :
    RO Try.prog 50 [.dsl 1 rows, .fn f caps] k (.v (.bool (xs.any p))) [] k := by
  refine RO.ofv' Try.func50 Try.ntmps50 rfl (goFn_of Try.func50 rfl (by kernel_rfl)) rfl rfl ?_
  ((repeat' (first
    | (show SQ _ _ _ _ _ _ _ _; first | apply sq_nil | (apply q_move; exact rfl; exact rfl) | (apply q_assign; exact rfl; exact rfl) | (apply q_geq; exact rfl; exact rfl; exact rfl))
    | (show SQ _ _ _ _ _ _ _ _; (first | (apply q_callU; exact rfl; exact rfl; exact rfl; rotate_left; exact IndexFuncInt_ro xs rows f caps p hcap hz hrows hf hn _; rotate_right; focus ((repeat' (first | exact FzL.nil | exact (by assumption : FzC _) _ | refine FzL.cons ?_ ?_ | exact Fz.of rfl | exact Fz.nil | exact Fz.emp | (apply Fz.fnC; assumption) | (apply Fz.sl2; exact rfl; exact (by first | omega | (simp; done) | (simp; omega)); first | exact rfl | exact dt_full (by first | omega | (simp; done) | (simp; omega)) | assumption) | apply Fz.agg | (apply Fz.ptrL; exact rfl; first | exact rfl | assumption) | apply Fz.fnL)); done))); (try simp only [put, rowsOf, plR, List.all_cons, selE, ovr, setH, del, cellsA, splice, isV, List.nil_append, List.cons_append, List.map_cons, List.map_nil, List.length_cons, List.length_nil, List.set_cons_zero, List.set_cons_succ, List.take_succ_cons, List.take_zero, List.take_nil, List.drop_succ_cons, List.drop_zero, List.drop_nil, List.append_nil, List.all_cons, List.all_nil, Bool.and_true, Bool.true_and, Bool.and_false, Bool.false_and, Nat.reduceAdd, Nat.zero_add, Nat.add_zero, Nat.reduceEqDiff, if_true, if_false, reduceIte]))
    | (show AW _ _ _ _ _ _ _ _; first | refine aw_region ?_ | (refine aw_seqk ?_; intro K hK) | refine aw_ret ?_)
    | refine thn_n ?_
    | (refine hK _ _ _ ?_; clear hK K))); all_goals (repeat (clear hK K)))
  all_goals refine fin_r (fin_b rfl ?_)
  exact ixG_any p xs
set_option maxHeartbeats 4000000 in
theorem awClosure_ro (x lo hi : Int) (k : Nat) : RO Try.prog 97 [.v (.int .i64 x), .dptr [.v (.int .i64 lo)], .dptr [.v (.int .i64 hi)]] k (.v (.bool (!inB x lo hi))) [] k := by
  refine RO.ofv' Try.func97 Try.ntmps97 rfl (goFn_of Try.func97 rfl (by kernel_rfl)) rfl rfl ?_
  ((repeat' (first
    | (show SQ _ _ _ _ _ _ _ _; first | apply sq_nil | (apply q_move; exact rfl; exact rfl) | (apply q_assign; exact rfl; exact rfl) | (apply q_not; exact rfl; exact rfl) | (apply q_ld1d; exact rfl; exact rfl; exact (ty rfl); exact rfl; exact rfl))
    | (show SQ _ _ _ _ _ _ _ _; (first | (apply q_callU; exact rfl; exact rfl; exact rfl; exact FzL.of rfl; exact within_ro _ _ _ _)); (try simp only [put, rowsOf, plR, List.all_cons, selE, ovr, setH, del, cellsA, splice, isV, List.nil_append, List.cons_append, List.map_cons, List.map_nil, List.length_cons, List.length_nil, List.set_cons_zero, List.set_cons_succ, List.take_succ_cons, List.take_zero, List.take_nil, List.drop_succ_cons, List.drop_zero, List.drop_nil, List.append_nil, List.all_cons, List.all_nil, Bool.and_true, Bool.true_and, Bool.and_false, Bool.false_and, Nat.reduceAdd, Nat.zero_add, Nat.add_zero, Nat.reduceEqDiff, if_true, if_false, reduceIte]))
    | (show AW _ _ _ _ _ _ _ _; first | refine aw_region ?_ | (refine aw_seqk ?_; intro K hK) | refine aw_ret ?_)
    | refine thn_n ?_
    | (refine hK _ _ _ ?_; clear hK K))); all_goals (repeat (clear hK K)))
  all_goals exact fin_r (fin_b rfl rfl)
set_option maxHeartbeats 4000000 in
theorem allWithin_ro (xs : List Int) (rows : List (List AV)) (lo hi : Int) (hrows : rows = xs.map inL) (hn : xs.length ≤ 1048576) (k : Nat) : RO Try.prog 69 [.dsl 1 rows, .v (.int .i64 lo), .v (.int .i64 hi)] k (.v (.bool (!xs.any fun x => !inB x lo hi))) [] k := by
  have hC := ContainsFuncInt_ro xs rows 97 [.dptr [.v (.int .i64 lo)], .dptr [.v (.int .i64 hi)]] (fun x => !inB x lo hi) rfl (fun H => FzL.of rfl) hrows (fun x _ m => awClosure_ro x lo hi m) hn
  refine RO.ofv' Try.func69 Try.ntmps69 rfl (goFn_of Try.func69 rfl (by kernel_rfl)) rfl rfl ?_
  ((repeat' (first
    | (show SQ _ _ _ _ _ _ _ _; first | apply sq_nil | (apply q_move; exact rfl; exact rfl) | (apply q_assign; exact rfl; exact rfl) | (apply q_not; exact rfl; exact rfl) | (apply q_mkf; exact rfl; exact rfl))
    | (show SQ _ _ _ _ _ _ _ _; (first | (apply q_box; exact rfl; exact rfl; exact rfl) | (apply q_callU; exact rfl; exact rfl; exact rfl; exact FzL.of rfl; exact hC _)); (try simp only [put, rowsOf, plR, List.all_cons, selE, ovr, setH, del, cellsA, splice, isV, List.nil_append, List.cons_append, List.map_cons, List.map_nil, List.length_cons, List.length_nil, List.set_cons_zero, List.set_cons_succ, List.take_succ_cons, List.take_zero, List.take_nil, List.drop_succ_cons, List.drop_zero, List.drop_nil, List.append_nil, List.all_cons, List.all_nil, Bool.and_true, Bool.true_and, Bool.and_false, Bool.false_and, Nat.reduceAdd, Nat.zero_add, Nat.add_zero, Nat.reduceEqDiff, if_true, if_false, reduceIte]))
    | (show AW _ _ _ _ _ _ _ _; first | refine aw_region ?_ | (refine aw_seqk ?_; intro K hK) | refine aw_ret ?_)
    | refine thn_n ?_
    | (refine hK _ _ _ ?_; clear hK K))); all_goals (repeat (clear hK K)))
  all_goals exact fin_r (fin_b rfl rfl)
end Go.Proofs.Yteknfaldpajlpaa.Il

namespace Go.Proofs.Yteknfaldpajlpaa.Il
open Go Go.RowKit Go.Proofs.Yteknfaldpajlpaa.Aw Go.Proofs.Yteknfaldpajlpaa.In
set_option linter.unusedSimpArgs false
set_option linter.unusedVariables false
attribute [local irreducible] AW SQ Step RO RC DE Thn InB
theorem allR_false {n : Nat} {f : Nat → Bool} {i : Nat} (hi : i < n) (h : f i = false) : (List.range n).all f = false := by
  cases ha : (List.range n).all f with
  | false => rfl
  | true => have := List.all_eq_true.1 ha i (List.mem_range.2 hi); rw [h] at this; cases this
theorem allR_true {n : Nat} {f : Nat → Bool} (h : ∀ i, i < n → f i = true) : (List.range n).all f = true :=
  List.all_eq_true.2 fun i hi => h i (List.mem_range.1 hi)
def incAt (xs : List Int) (i : Nat) : Bool := decide (i = 0) || decide (xs.getD (i - 1) 0 < xs.getD i 0)
theorem incAt0 (xs : List Int) : incAt xs 0 = true := rfl
def incB (xs : List Int) : Bool := (List.range xs.length).all (incAt xs)
set_option maxHeartbeats 4000000 in
theorem increasing_ro (xs : List Int) (hn : xs.length ≤ 1048576) (k : Nat) : RO Try.prog 68 [.dsl 1 (xs.map inL)] k (.v (.bool (incB xs))) [] k := by
  refine RO.ofv' Try.func68 Try.ntmps68 rfl (goFn_of Try.func68 rfl (by kernel_rfl)) rfl rfl ?_
  ((repeat' (first
    | (show SQ _ _ _ _ _ _ _ _; first | apply sq_nil | (apply q_assign; exact rfl; exact rfl))
    | (show AW _ _ _ _ _ _ _ _; first | refine aw_region ?_ | (refine aw_seqk ?_; intro K hK) | refine aw_block ?_)
    | refine thn_n ?_
    | (refine hK _ _ _ ?_; clear hK K))); all_goals (repeat (clear hK K)))
  refine aw_loop (ρ := id) (ι := Nat) (fun i => ([(3, .v (.int .i64 i)), (0, .dsl 1 (xs.map inL))], [], 0))
    (fun i => 1 ≤ i ∧ ∀ j, j < i → j < xs.length → incAt xs j = true) (fun i => xs.length - i) 1 ⟨Nat.le_refl _, fun j hj _ => (show j = 0 by omega) ▸ incAt0 xs⟩ ⟨by (repeat (refine ⟨by first | exact lk_i rfl rfl | exact lk_d rfl rfl, ?_⟩)); exact trivial, by exact trivial, by rfl, by exact pin_0⟩ ?_
  rintro i ⟨hi, hg⟩
  by_cases c2 : i < xs.length
  · have b2 : decide ((i : Int) < ((xs.map inL).length : Int)) = true := by simpa using c2
    have hrow : (xs.map inL)[((i : Int)).toNat]? = some (inL xs[i]) := by simp [c2]
    have hw2 : IntKind.i64.wrap ((i : Int) - 1) = (i : Int) - 1 := IntWalk.i64_in _ (by omega)
    have hrow2 : (xs.map inL)[(IntKind.i64.wrap ((i : Int) - 1)).toNat]? = some (inL xs[i - 1]) := by
      rw [hw2, show ((i : Int) - 1).toNat = i - 1 by omega]; simp [show i - 1 < xs.length by omega]
    rw [inL_eq] at hrow hrow2
    have hD : incAt xs i = decide (xs[i - 1] < xs[i]) := by simp [incAt, List.getD, c2, show i - 1 < xs.length by omega, show i ≠ 0 by omega]
    ((repeat' (first
    | (show SQ _ _ _ _ _ _ _ _; first | apply sq_nil | (apply q_move; exact rfl; exact rfl) | (apply q_assign; exact rfl; exact rfl) | (apply q_lend; exact rfl; exact rfl; exact (ty rfl); exact rfl) | (apply q_add; exact rfl; exact rfl; exact rfl) | (apply q_lss; exact rfl; exact rfl; exact rfl))
    | (show DE _ _ _ _ _ _ _ _ _ _ _ _; first | (apply e_move; exact rfl; exact rfl; exact rfl) | (apply e_sub; exact rfl; exact rfl; exact rfl; exact rfl) | (apply e_leq; exact rfl; exact rfl; exact rfl; exact rfl) | (apply e_ixd; exact rfl; exact rfl; exact rfl; exact (ty rfl); exact rfl; exact (by first | omega | (simp; done) | (simp; omega)); exact (by first | omega | (simp; done) | (simp; omega)); exact (by first | rfl | assumption); exact rfl) | (apply e_ld1d; exact rfl; exact rfl; exact (ty rfl); exact rfl; exact rfl; exact rfl))
    | (show DE _ _ _ _ _ _ _ _ _ _ _ _; (first | (apply dr_nil; exact trivial)); (try simp only [put, rowsOf, plR, List.all_cons, selE, ovr, setH, del, cellsA, splice, isV, List.nil_append, List.cons_append, List.map_cons, List.map_nil, List.length_cons, List.length_nil, List.set_cons_zero, List.set_cons_succ, List.take_succ_cons, List.take_zero, List.take_nil, List.drop_succ_cons, List.drop_zero, List.drop_nil, List.append_nil, List.all_cons, List.all_nil, Bool.and_true, Bool.true_and, Bool.and_false, Bool.false_and, Nat.reduceAdd, Nat.zero_add, Nat.add_zero, Nat.reduceEqDiff, if_true, if_false, reduceIte]))
    | (show AW _ _ _ _ _ _ _ _; first | refine aw_region ?_ | (refine aw_seqk ?_; intro K hK) | refine aw_block ?_ | (apply aw_cond_t; exact rfl; exact (by assumption)) | refine aw_ret ?_ | refine aw_skip ?_ | refine aw_drawE (id := 4) [0, 0, 3, 7, 0, 0, 32, 112, 240, 511] [0, 0, 0, 1, 0, 0, 0, 0, 1, 0] mixed (by kernel_rfl) ?_ | (apply aw_ite; exact rfl; all_goals intro h))
    | refine thn_n ?_
    | (refine hK _ _ _ ?_; clear hK K)
    | refine thn_r ?_
    | refine inb_n ?_
    | refine inb_r ?_)); all_goals (repeat (clear hK K)))
    all_goals first
      | (refine fin_r (fin_b rfl ?_)
         refine (allR_false c2 ?_).symm
         rw [hD]; simp_all; done)
      | (refine ⟨i + 1, id, ⟨by omega, fun j hj hj2 => ?_⟩, by omega, ⟨by (repeat (refine ⟨by first | exact lk_i rfl (by (try dsimp only); first | rfl | omega | (rw [IntWalk.i64_in _ (by omega)]; first | rfl | omega | (push_cast; omega)) | (simp; done) | (simp; omega)) | exact lk_d rfl rfl, ?_⟩)); exact trivial, by exact trivial, by rfl, by exact pin_0⟩⟩
         by_cases hjq : j < i
         · exact hg j hjq hj2
         · obtain rfl : j = i := by omega
           rw [hD]; simp_all)
  · have b2 : decide ((i : Int) < ((xs.map inL).length : Int)) = false := by simpa using c2
    ((repeat' (first
    | (show SQ _ _ _ _ _ _ _ _; first | apply sq_nil | (apply q_move; exact rfl; exact rfl) | (apply q_assign; exact rfl; exact rfl) | (apply q_lend; exact rfl; exact rfl; exact (ty rfl); exact rfl) | (apply q_lss; exact rfl; exact rfl; exact rfl))
    | (show AW _ _ _ _ _ _ _ _; first | refine aw_region ?_ | (refine aw_seqk ?_; intro K hK) | (apply aw_cond_f; exact rfl; exact (by assumption)) | refine aw_ret ?_ | refine aw_exit ?_)
    | refine thn_n ?_
    | (refine hK _ _ _ ?_; clear hK K)
    | refine thn_e ?_
    | refine inb_same ?_
    | (clear hK K; refine hK _ _ _ ?_; clear hK K))); all_goals (repeat (clear hK K)))
    all_goals refine fin_r (fin_b rfl ?_)
    exact (allR_true fun j hj => hg j (by omega) hj).symm
set_option maxHeartbeats 4000000 in
theorem slIndex_ro (xs : List Int) (rows : List (List AV)) (n : Int) (hrows : rows = xs.map inL) (hn : xs.length ≤ 1048576) (k : Nat) : RO Try.prog 104 [.dsl 1 rows, .v (.int .i64 n)] k (.v (.int .i64 (ixG (fun y => y == n) xs))) [] k := by
  subst hrows
  refine RO.ofv' Try.func104 Try.ntmps104 rfl (goFn_of Try.func104 rfl (by kernel_rfl)) rfl rfl ?_
  ((repeat' (first
    | (show SQ _ _ _ _ _ _ _ _; first | apply sq_nil | (apply q_move; exact rfl; exact rfl) | (apply q_assign; exact rfl; exact rfl) | (apply q_lend; exact rfl; exact rfl; exact (ty rfl); exact rfl))
    | (show AW _ _ _ _ _ _ _ _; first | refine aw_region ?_ | (refine aw_seqk ?_; intro K hK) | refine aw_block ?_)
    | refine thn_n ?_
    | (refine hK _ _ _ ?_; clear hK K))); all_goals (repeat (clear hK K)))
  refine aw_loop (ρ := id) (ι := Nat) (fun i => ([(8, .v (.int .i64 i)), (7, .v (.int .i64 xs.length)), (1, .v (.int .i64 n)), (0, .dsl 1 (xs.map inL))], [], 0))
    (fun i => i ≤ xs.length ∧ ∀ y ∈ xs.take i, (y == n) = false) (fun i => xs.length - i) 0 ⟨Nat.zero_le _, by simp⟩ ⟨⟨lk_i rfl rfl, lk_i rfl (by simp), lk_i rfl rfl, lk_d rfl rfl, trivial⟩, trivial, rfl, pin_0⟩ ?_
  rintro i ⟨hi, hg⟩
  by_cases c2 : i < xs.length
  · have b2 : decide ((i : Int) < (xs.length : Int)) = true := by simpa using c2
    have hrow : (xs.map inL)[((i : Int)).toNat]? = some (inL xs[i]) := by simp [c2]
    rw [inL_eq] at hrow
    have hcm : (n == xs[i]) = (xs[i] == n) := by rw [Bool.eq_iff_iff]; simp only [beq_iff_eq]; exact eq_comm
    ((repeat' (first
    | (show SQ _ _ _ _ _ _ _ _; first | apply sq_nil | (apply q_move; exact rfl; exact rfl) | (apply q_assign; exact rfl; exact rfl) | (apply q_add; exact rfl; exact rfl; exact rfl) | (apply q_eql; exact rfl; exact rfl; exact rfl) | (apply q_lss; exact rfl; exact rfl; exact rfl) | (apply q_ixd; exact rfl; exact rfl; exact rfl; exact (ty rfl); exact rfl; exact (by first | omega | (simp; done) | (simp; omega)); exact (by first | omega | (simp; done) | (simp; omega)); exact (by first | rfl | assumption)) | (apply q_ld1d; exact rfl; exact rfl; exact (ty rfl); exact rfl; exact rfl))
    | (show AW _ _ _ _ _ _ _ _; first | refine aw_region ?_ | (refine aw_seqk ?_; intro K hK) | refine aw_block ?_ | (apply aw_cond_t; exact rfl; exact (by assumption)) | refine aw_ret ?_ | refine aw_skip ?_ | (apply aw_ite; exact rfl; all_goals intro h))
    | refine thn_n ?_
    | (refine hK _ _ _ ?_; clear hK K)
    | refine thn_r ?_
    | refine inb_n ?_
    | refine inb_r ?_)); all_goals (repeat (clear hK K)))
    all_goals first
      | (refine fin_r (fin_i rfl ?_)
         refine (ixG_hit c2 hg ?_).symm
         rw [← hcm]; assumption)
      | (refine ⟨i + 1, id, ⟨c2, takeS c2 hg ?_⟩, by omega, ⟨by (repeat (refine ⟨by first | exact lk_i rfl rfl | exact lk_i rfl (by (try dsimp only); first | rfl | omega | (rw [IntWalk.i64_in _ (by omega)]; first | rfl | omega | (push_cast; omega)) | (simp; done) | (simp; omega)) | exact lk_d rfl rfl, ?_⟩)); exact trivial, by exact trivial, by rfl, by exact pin_0⟩⟩
         rw [← hcm]; assumption)
  · have b2 : decide ((i : Int) < (xs.length : Int)) = false := by simpa using c2
    ((repeat' (first
    | (show SQ _ _ _ _ _ _ _ _; first | apply sq_nil | (apply q_assign; exact rfl; exact rfl) | (apply q_lss; exact rfl; exact rfl; exact rfl))
    | (show AW _ _ _ _ _ _ _ _; first | refine aw_region ?_ | (refine aw_seqk ?_; intro K hK) | (apply aw_cond_f; exact rfl; exact (by assumption)) | refine aw_ret ?_ | refine aw_exit ?_)
    | refine thn_n ?_
    | (refine hK _ _ _ ?_; clear hK K)
    | refine thn_e ?_
    | refine inb_same ?_
    | (clear hK K; refine hK _ _ _ ?_; clear hK K))); all_goals (repeat (clear hK K)))
    all_goals refine fin_r (fin_i rfl ?_)
    rw [List.take_of_length_le (by omega)] at hg
    exact (ixG_none _ xs hg).symm
set_option maxHeartbeats 4000000 in
theorem slContains_ro (xs : List Int) (rows : List (List AV)) (n : Int) (hrows : rows = xs.map inL) (hn : xs.length ≤ 1048576) (k : Nat) : RO Try.prog 86 [.dsl 1 rows, .v (.int .i64 n)] k (.v (.bool (xs.any fun y => y == n))) [] k := by
  refine RO.ofv' Try.func86 Try.ntmps86 rfl (goFn_of Try.func86 rfl (by kernel_rfl)) rfl rfl ?_
  ((repeat' (first
    | (show SQ _ _ _ _ _ _ _ _; first | apply sq_nil | (apply q_move; exact rfl; exact rfl) | (apply q_assign; exact rfl; exact rfl) | (apply q_geq; exact rfl; exact rfl; exact rfl))
    | (show SQ _ _ _ _ _ _ _ _; (first | (apply q_callU; exact rfl; exact rfl; exact rfl; exact FzL.of rfl; exact slIndex_ro xs rows n hrows hn _)); (try simp only [put, rowsOf, plR, List.all_cons, selE, ovr, setH, del, cellsA, splice, isV, List.nil_append, List.cons_append, List.map_cons, List.map_nil, List.length_cons, List.length_nil, List.set_cons_zero, List.set_cons_succ, List.take_succ_cons, List.take_zero, List.take_nil, List.drop_succ_cons, List.drop_zero, List.drop_nil, List.append_nil, List.all_cons, List.all_nil, Bool.and_true, Bool.true_and, Bool.and_false, Bool.false_and, Nat.reduceAdd, Nat.zero_add, Nat.add_zero, Nat.reduceEqDiff, if_true, if_false, reduceIte]))
    | (show AW _ _ _ _ _ _ _ _; first | refine aw_region ?_ | (refine aw_seqk ?_; intro K hK) | refine aw_ret ?_)
    | refine thn_n ?_
    | (refine hK _ _ _ ?_; clear hK K))); all_goals (repeat (clear hK K)))
  all_goals refine fin_r (fin_b rfl ?_)
  exact ixG_any _ xs
end Go.Proofs.Yteknfaldpajlpaa.Il

namespace Go.Proofs.Yteknfaldpajlpaa.Aw
open Go Go.RowKit
set_option linter.unusedVariables false
set_option linter.unusedSimpArgs false
section
variable {P : Program} {H : Hp} {N n g : Nat} {T : Tp} {all : Array Oper} {l : List Oper} {G : Tp → Hp → Nat → Prop}
end
section
variable {P : Program} {N n n' : Nat} {all : Array Oper} {l : List Oper} {G : Tp → Hp → Nat → Prop} {T : Tp} {H : Hp} {bs ks : List Nat} {i : Nat} {eff : List (Nat × List (Nat × Option Blk))} {ty : TypeId} {pos : String} {after : Array Edge} {d : Nat}
theorem e_rdi {x y : Operand} {t e : TypeId} {ti : TI} {es eb id row len : Nat} {ez : List Value} {b : Blk} {k : IntKind} {q : Int} (hd : Nat.blt d N = true) (hx : evalA T x = some (.sl id row len)) (hy : evalA T y = some (.v (.int k q))) (hty : tiOf P t = some ti) (hk0 : ti.k = .slice e es eb ez) (hl : look H id = some b) (hb : b.size = es) (h0 : 0 ≤ q) (h1 : q < len)
    (hk : ks.getD i 0 = 0) (hR : (rdP (ks.drop all.size)).contains (i, id) = true) (h : DE P N all bs ks H G (i + 1) eff l ((d, .ptr id (row + q.toNat) 0) :: T) n) : DE P N all bs ks H G i eff (⟨some d, .indexAddr t x y, ty, pos, after, none⟩ :: l) T n :=
  dr_r rfl hd hk hR hl (fun H n hl => s_index_sl rfl hty hk0 (evalR hx (fun t ht => by subst ht; simp [Oper.looksAt, Op.operands, Call.operands])) hl hb (evalR hy (fun t ht => by subst ht; simp [Oper.looksAt, Op.operands, Call.operands])) h0 h1) h
end
theorem WkC.same (cv : AV) : WkC cv cv := .inl rfl
theorem WkC.nil (s : Nat) : WkC (.v (.slice none 0 0)) (.dsl s []) := .inr ⟨s, rfl, rfl⟩
end Go.Proofs.Yteknfaldpajlpaa.Aw

namespace Go.Proofs.Yteknfaldpajlpaa.Nb
open Go Go.RowKit Go.Proofs.Yteknfaldpajlpaa.Aw Go.Proofs.Yteknfaldpajlpaa.In Go.Proofs.Yteknfaldpajlpaa.Il
set_option linter.unusedSimpArgs false
set_option linter.unusedVariables false
attribute [local irreducible] AW SQ Step RO RC DE Thn InB
def nbL (ls : List (List Int)) : List (List AV) := ls.map fun l => [.dsl 1 (l.map inL)]
structure NbS (ls : List (List Int)) : Prop where
  n : ls.length ≤ 1048576
  m : ∀ l ∈ ls, l.length ≤ 1048576
theorem nbL_len (ls : List (List Int)) : (nbL ls).length = ls.length := List.length_map _
theorem nbL_get {ls : List (List Int)} {i : Nat} (h : i < ls.length) : (nbL ls)[((i : Int)).toNat]? = some [.dsl 1 (ls[i].map inL)] := by simp [nbL, h]
def nearB (ls : List (List Int)) (i k : Nat) : Bool := ((ls.getD i []).any fun y => y == (k : Int)) || ((ls.getD k []).any fun y => y == (i : Int))
def shareB (ls : List (List Int)) (i k : Nat) : Bool := (List.range ls.length).any fun x => nearB ls i x && nearB ls x k
def clB (ls : List (List Int)) (i k : Nat) : Bool := nearB ls i k || shareB ls i k
section
variable (ls : List (List Int)) (hS : NbS ls)
include hS
def earB (ls : List (List Int)) (cs : List Int) (c : Int) : Bool := (List.range cs.length).any fun i => cs.getD i 0 == c && clB ls i cs.length
end
end Go.Proofs.Yteknfaldpajlpaa.Nb

namespace Go.Proofs.Yteknfaldpajlpaa.Aw
open Go Go.RowKit
set_option linter.unusedVariables false
section
variable {P : Program} {N g n : Nat} {Q : Exit → Tp → Hp → Nat → Prop} {T : Tp} {H : Hp}
theorem Rel.unpl {Old : Nat → Prop} {wi : WI} {K : Nat → Prop} {m : Nat → Loc} {S : Nat → Prop} {w : World} {id ty sz : Nat} {rows : List (List AV)} (hr : Rel Old wi K m S H w) (hl : look H id = some ⟨ty, sz, true, rows⟩) :
    Rel Old wi K m S ((id, ⟨ty, sz, false, rows⟩) :: H) w := by
  have pt : ∀ {i : Nat} {b : Blk}, look ((id, (⟨ty, sz, false, rows⟩ : Blk)) :: H) i = some b → ∃ b0, look H i = some b0 ∧ b0.size = b.size := by
    intro i b h
    rw [look_cons] at h
    split at h
    · rename_i e; subst e; simp only [Option.some.injEq] at h; subst h; exact ⟨_, hl, rfl⟩
    · exact ⟨b, h, rfl⟩
  exact { hr with
    oown := (fun i b h => by obtain ⟨b0, h0, _⟩ := pt h; exact hr.oown i b0 h0)
    om := (fun i b h => by obtain ⟨b0, h0, e⟩ := pt h; rw [← e]; exact hr.om i b0 h0)
    inS := (fun i b h => by obtain ⟨b0, h0, _⟩ := pt h; exact hr.inS i b0 h0)
    own := (fun i b h => by
      rw [look_cons] at h
      split at h
      · rename_i e
        subst e
        simp only [Option.some.injEq] at h
        subst h
        rcases hr.own _ _ hl with ⟨h1, h2⟩ | ⟨h1, h2⟩
        · exact .inl ⟨h1, h2⟩
        · refine .inr ⟨h1, { nk := h2.nk, sz := h2.sz, cap := h2.cap, capm := h2.capm, plv := (fun h => by cases h), ex := ?_ }⟩
          obtain ⟨cur, g1, g2, g3⟩ := h2.ex
          refine ⟨cur, g1, g2, fun r row hrow => ⟨(g3 r row hrow).1, fun j cv hj => ?_⟩⟩
          obtain ⟨x, x1, x2, x3⟩ := (g3 r row hrow).2 j cv hj
          exact ⟨x, x1, x2, x3.mono (fun _ h => h) (fun _ _ => rfl) (fun i hi => by simp at hi) (fun i hi => rfl)⟩
      · exact hr.own i b h)
    inj := (fun i j bi bj hi hj => by
      obtain ⟨b0, h0, _⟩ := pt hi
      obtain ⟨b1, h1, _⟩ := pt hj
      exact hr.inj i j b0 b1 h0 h1) }
theorem aw_unpl {c : Code} (id : Nat) {ty sz : Nat} {rows : List (List AV)} (hl : look H id = some ⟨ty, sz, true, rows⟩) (h : AW P N g c Q T ((id, ⟨ty, sz, false, rows⟩) :: H) n) : AW P N g c Q T H n := fun Old wi K m a w hp hr ht =>
  h Old wi K m a w hp (hr.unpl hl) ht
end
def mv (a b : Nat) : Nat → Nat := fun z => if z = a then b else z
end Go.Proofs.Yteknfaldpajlpaa.Aw

namespace Go.Proofs.Yteknfaldpajlpaa.Il
open Go Go.RowKit Go.Proofs.Yteknfaldpajlpaa.Aw Go.Proofs.Yteknfaldpajlpaa.In
set_option linter.unusedSimpArgs false
set_option linter.unusedVariables false
attribute [local irreducible] AW SQ Step RO RC DE Thn InB
def up (z : Int) (i : Nat) : Int := z + (i : Int)
end Go.Proofs.Yteknfaldpajlpaa.Il

namespace Go.Proofs.Yteknfaldpajlpaa.Aw
open Go Go.RowKit
set_option linter.unusedVariables false
section
variable {Old : Nat → Prop} {wi : WI} {K : Nat → Prop} {m : Nat → Loc} {S : Nat → Prop} {H H' : Hp} {w : World}
theorem Rel.less (hs : ∀ i b, look H' i = some b → look H i = some b) (hr : Rel Old wi K m S H w) : Rel Old wi K m S H' w :=
  { hr with
    oown := (fun i b h => hr.oown i b (hs i b h))
    om := (fun i b h => hr.om i b (hs i b h))
    inS := (fun i b h => hr.inS i b (hs i b h))
    own := (fun i b h => hr.own i b (hs i b h))
    inj := (fun i j bi bj hi hj => hr.inj i j bi bj (hs i bi hi) (hs j bj hj)) }
end
section
variable {P : Program} {N g n n' : Nat} {all : Array Oper} {l : List Oper} {G : Tp → Hp → Nat → Prop} {Q : Exit → Tp → Hp → Nat → Prop} {T : Tp} {H H' : Hp} {d : Nat} {ty : TypeId} {pos : String} {after : Array Edge}
theorem sq_sub (hs : ∀ i b, look H' i = some b → look H i = some b) (h : SQ P N all l G T H' n) : SQ P N all l G T H n := fun Old wi K m a w Q hr ht hq => h Old wi K m a w Q (hr.less hs) ht hq
theorem aw_sub {c : Code} (hs : ∀ i b, look H' i = some b → look H i = some b) (h : AW P N g c Q T H' n) : AW P N g c Q T H n := fun Old wi K m a w hp hr ht => h Old wi K m a w hp (hr.less hs) ht
end
def nst (base : Nat) : List Blk → Hp
  | [] => []
  | b :: bs => (base, b) :: nst (base + 1) bs
theorem look_nst : ∀ (bs : List Blk) (base k : Nat), look (nst base bs) k = if base ≤ k then bs[k - base]? else none
  | [], base, k => by simp [nst, look_nil]
  | b :: bs, base, k => by
    rw [nst, look_cons, look_nst bs (base + 1) k]
    by_cases h : base = k
    · subst h; simp
    · rw [if_neg h]
      by_cases h2 : base ≤ k
      · rw [if_pos h2, if_pos (by omega), show k - base = (k - (base + 1)) + 1 by omega]; rfl
      · rw [if_neg h2, if_neg (by omega)]
theorem look_nst_at {bs : List Blk} {base j : Nat} : look (nst base bs) (base + j) = bs[j]? := by
  rw [look_nst, if_pos (by omega), Nat.add_sub_cancel_left]
theorem nst_keys : ∀ (bs : List Blk) (base : Nat), (nst base bs).map (·.1) = List.range' base bs.length
  | [], _ => rfl
  | b :: bs, base => by rw [nst, List.map_cons, nst_keys bs (base + 1), List.length_cons, List.range'_succ]
def NstIn (H : Hp) (base : Nat) (bs : List Blk) : Prop := ∀ (j : Nat) (b : Blk), bs[j]? = some b → look H (base + j) = some b
theorem nlt {bs : List Blk} {j : Nat} {b : Blk} (h : bs[j]? = some b) : j < bs.length := (List.getElem?_eq_some_iff.1 h).1
theorem NstIn.here' {base : Nat} {bs : List Blk} : NstIn (nst base bs) base bs := fun j b h => by rw [look_nst_at, h]
theorem NstIn.cons {base i : Nat} {b : Blk} {bs : List Blk} {H : Hp} (h : i < base ∨ base + bs.length ≤ i) (hn : NstIn H base bs) : NstIn ((i, b) :: H) base bs := fun j c hc => by
  have := nlt hc
  rw [look_cons, if_neg (by omega)]; exact hn j c hc
theorem NstIn.skip {base base' : Nat} {bs bs' : List Blk} {H : Hp} (h : base + bs.length ≤ base' ∨ base' + bs'.length ≤ base) (hn : NstIn H base bs) : NstIn (nst base' bs' ++ H) base bs := fun j c hc => by
  have := nlt hc
  rw [look_append, look_nst]
  by_cases h2 : base' ≤ base + j
  · rw [if_pos h2, List.getElem?_eq_none (by omega)]; exact hn j c hc
  · rw [if_neg h2]; exact hn j c hc
def outR (base : Nat) : List Nat → List (List AV)
  | [] => []
  | n :: ns => [.sl base 0 n] :: outR (base + 1) ns
theorem outR_len : ∀ (ns : List Nat) (base : Nat), (outR base ns).length = ns.length
  | [], _ => rfl
  | n :: ns, base => by rw [outR, List.length_cons, outR_len ns, List.length_cons]
theorem outR_get : ∀ (ns : List Nat) (base i : Nat), (outR base ns)[i]? = ns[i]?.map fun n => [.sl (base + i) 0 n]
  | [], base, i => by simp [outR]
  | n :: ns, base, 0 => rfl
  | n :: ns, base, i + 1 => by
    rw [outR, List.getElem?_cons_succ, outR_get ns (base + 1) i, List.getElem?_cons_succ, show base + 1 + i = base + (i + 1) by omega]
theorem outR_app : ∀ (ns ms : List Nat) (base : Nat), outR base (ns ++ ms) = outR base ns ++ outR (base + ns.length) ms
  | [], ms, base => rfl
  | n :: ns, ms, base => by rw [List.cons_append, outR, outR, outR_app ns ms (base + 1), List.cons_append, List.length_cons, show base + 1 + ns.length = base + (ns.length + 1) by omega]
def blkR (ity : TypeId) (rows : List (List AV)) : Blk := ⟨ity, 1, true, rows⟩
def nestB (ty : TypeId) (k : Nat) (Ls : List (List (List AV))) : Blk := ⟨ty, 1, false, outR (k + 1) (Ls.map List.length)⟩
theorem fz_outR {H : Hp} {ity : TypeId} : ∀ (Ls : List (List (List AV))) (base : Nat), NstIn H base (Ls.map (blkR ity)) → (outR base (Ls.map List.length)).mapM (fun r => r.mapM (fz 1 H)) = some (Ls.map fun rows => [.dsl 1 rows])
  | [], _, _ => rfl
  | rows :: Ls, base, h => by
    have h0 := h 0 (blkR ity rows) rfl
    have ih := fz_outR Ls (base + 1) fun j b hb => by
      have := h (j + 1) b (by simpa using hb)
      rwa [show base + (j + 1) = base + 1 + j by omega] at this
    rw [List.map_cons, outR, List.mapM_cons, ih, List.mapM_cons]
    have h0 : look H base = some (blkR ity rows) := h0
    have e : fz 1 H (.sl base 0 rows.length) = some (.dsl 1 rows) := by
      simp only [fz, h0, blkR, Nat.zero_add, Nat.le_refl, if_true, List.drop_zero, List.take_length]
    rw [e]; rfl
theorem Fz.nst {H : Hp} {k len : Nat} {ty ity : TypeId} {Ls : List (List (List AV))} {rows : List (List AV)} (hl : look H k = some (nestB ty k Ls)) (hn : NstIn H (k + 1) (Ls.map (blkR ity))) (he : len = Ls.length) (hr : (Ls.map fun rows => [.dsl 1 rows]) = rows) : Fz H (.sl k 0 len) (.dsl 1 rows) := by
  subst he hr
  refine fun _ _ _ _ _ _ _ hrel hv => fz_vr hrel 2 _ _ _ ?_ hv
  have hlen := outR_len (Ls.map List.length) (k + 1)
  rw [List.length_map] at hlen
  rw [fz, hl]
  simp only [nestB, Nat.zero_add, List.drop_zero]
  rw [if_pos (by omega), List.take_of_length_le (by omega), if_neg (by simp), fz_outR Ls (k + 1) hn]
  rfl
theorem injB_of {ρ : Nat → Nat} : ∀ {l : List Nat}, (∀ i ∈ l, ∀ j ∈ l, ρ i = ρ j → i = j) → injB ρ l = true
  | [], _ => rfl
  | i :: l, h => by
    rw [injB, Bool.and_eq_true]
    refine ⟨List.all_eq_true.2 fun j hj => ?_, injB_of fun a ha b hb => h a (List.mem_cons_of_mem _ ha) b (List.mem_cons_of_mem _ hb)⟩
    by_cases e : ρ i = ρ j
    · have := h i List.mem_cons_self j (List.mem_cons_of_mem _ hj) e
      subst this; simp
    · simp only [Bool.or_eq_true, Bool.not_eq_true']
      exact .inr (by cases hb : Nat.beq (ρ i) (ρ j) with | false => rfl | true => exact absurd (Nat.eq_of_beq_eq_true hb) e)
theorem outR_ren {ρ : Nat → Nat} : ∀ (ns : List Nat) (base base' : Nat), (∀ j, j < ns.length → ρ (base + j) = base' + j) → (outR base ns).map (renL ρ) = outR base' ns
  | [], _, _, _ => rfl
  | n :: ns, base, base', h => by
    have h0 : ρ base = base' := h 0 (by simp)
    rw [outR, outR, List.map_cons, outR_ren ns (base + 1) (base' + 1) fun j hj => by have := h (j + 1) (by simpa using hj); rw [show base + 1 + j = base + (j + 1) by omega, this]; omega]
    simp only [renL, renA, h0]
theorem outR_ids {n : Nat} : ∀ (ns : List Nat) (base : Nat), base + ns.length ≤ n → (outR base ns).all (idsOkL n) = true
  | [], _, _ => rfl
  | a :: ns, base, h => by
    rw [List.length_cons] at h
    rw [outR, List.all_cons, outR_ids ns (base + 1) (by omega)]
    simp only [idsOkL, idsOk, Nat.blt_eq, Bool.and_true]
    omega
end Go.Proofs.Yteknfaldpajlpaa.Aw

namespace Go.Proofs.Yteknfaldpajlpaa.Nb
open Go Go.RowKit Go.Proofs.Yteknfaldpajlpaa.Aw Go.Proofs.Yteknfaldpajlpaa.In Go.Proofs.Yteknfaldpajlpaa.Il
set_option linter.unusedSimpArgs false
set_option linter.unusedVariables false
set_option linter.unusedSectionVars false
attribute [local irreducible] AW SQ Step RO RC DE Thn InB
def niB (k : Nat) (ls : List (List Int)) : Blk := ⟨23, 1, false, outR (k + 1) (ls.map List.length)⟩
def niT (ls : List (List Int)) : List Blk := ls.map fun l => ⟨2, 1, true, l.map inL⟩
theorem niT_len (ls : List (List Int)) : (niT ls).length = ls.length := List.length_map _
theorem niT_get {ls : List (List Int)} {j : Nat} {b : Blk} (h : (niT ls)[j]? = some b) : ∃ hj : j < ls.length, b = ⟨2, 1, true, ls[j].map inL⟩ := by
  have hj := nlt h
  rw [niT_len] at hj
  refine ⟨hj, ?_⟩
  simp only [niT, List.getElem?_map, List.getElem?_eq_getElem hj, Option.map_some, Option.some.injEq] at h
  exact h.symm
theorem renB_pl (ρ : Nat → Nat) {b : Blk} (h : b.pl = true) : renB ρ b = b := by
  obtain ⟨ty, sz, pl, rows⟩ := b
  dsimp only at h
  subst h; rfl
end Go.Proofs.Yteknfaldpajlpaa.Nb

namespace Go.Proofs.Yteknfaldpajlpaa.Nb
open Go Go.RowKit Go.Proofs.Yteknfaldpajlpaa.Aw Go.Proofs.Yteknfaldpajlpaa.In Go.Proofs.Yteknfaldpajlpaa.Il
set_option linter.unusedSimpArgs false
set_option linter.unusedVariables false
set_option linter.unusedSectionVars false
attribute [local irreducible] AW SQ Step RO RC DE Thn InB
theorem nst_mem : ∀ (bs : List Blk) (base : Nat) (p : Nat × Blk), p ∈ nst base bs → ∃ j, bs[j]? = some p.2 ∧ p.1 = base + j
  | [], _, p, h => by cases h
  | b :: bs, base, p, h => by
    rcases List.mem_cons.1 h with rfl | h
    · exact ⟨0, rfl, rfl⟩
    · obtain ⟨j, h1, h2⟩ := nst_mem bs (base + 1) p h
      exact ⟨j + 1, by simpa using h1, by omega⟩
end Go.Proofs.Yteknfaldpajlpaa.Nb

namespace Go.Proofs.Yteknfaldpajlpaa.Nb
open Go Go.RowKit Go.Proofs.Yteknfaldpajlpaa.Aw Go.Proofs.Yteknfaldpajlpaa.In Go.Proofs.Yteknfaldpajlpaa.Il
set_option linter.unusedSimpArgs false
set_option linter.unusedVariables false
set_option linter.unusedSectionVars false
attribute [local irreducible] AW SQ Step RO RC DE Thn InB
def Pl (bs : List Blk) : Prop := ∀ b ∈ bs, b.pl = true ∧ b.size = 1
end Go.Proofs.Yteknfaldpajlpaa.Nb

namespace Go.Proofs.Yteknfaldpajlpaa.Nb
open Go Go.RowKit Go.Proofs.Yteknfaldpajlpaa.Aw Go.Proofs.Yteknfaldpajlpaa.In Go.Proofs.Yteknfaldpajlpaa.Il
set_option linter.unusedSimpArgs false
set_option linter.unusedVariables false
set_option linter.unusedSectionVars false
attribute [local irreducible] AW SQ Step RO RC DE Thn InB
section
variable {n : Nat} {f g : Nat → Nat → Bool} {i j : Nat}
end
theorem look_mem {H : Hp} {i : Nat} {b : Blk} (h : Aw.look H i = some b) : (i, b) ∈ H := by
  induction H with
  | nil => simp [look_nil] at h
  | cons p H ih =>
    obtain ⟨k, c⟩ := p
    rw [look_cons] at h
    split at h
    · rename_i e; subst e; cases h; exact List.mem_cons_self
    · exact List.mem_cons_of_mem _ (ih h)
end Go.Proofs.Yteknfaldpajlpaa.Nb

namespace Go.Proofs.Yteknfaldpajlpaa.Nb
open Go Go.Proofs.Yteknfaldpajlpaa.In Go.Proofs.Yteknfaldpajlpaa.Il
set_option linter.unusedSimpArgs false
set_option linter.unusedVariables false
set_option linter.unusedSectionVars false
def OkFrom (ls : List (List Int)) (a : Nat) (cs : List Int) : Prop := ∀ i, a ≤ i → i < cs.length → earB ls (cs.take i) (cs.getD i 0) = false
structure ExI (ls : List (List Int)) (m : Int) (len : Nat) (st : Int × List Int) (q : Bool × (Int × List Int)) : Prop where
  keep : q.2.2.take len = st.2.take len
  le : len ≤ q.2.2.length
  bud : q.2.1 ≤ st.1
  lo : -1 ≤ q.2.1
  ok : q.1 = true → q.2.2.length = ls.length ∧ 0 ≤ q.2.1 ∧ OkFrom ls len q.2.2 ∧ ∀ i, len ≤ i → i < ls.length → 0 ≤ q.2.2.getD i 0 ∧ q.2.2.getD i 0 < m
theorem ExI.refl (ls : List (List Int)) (m : Int) {len : Nat} {st : Int × List Int} (h : len ≤ st.2.length) (h0 : -1 ≤ st.1) : ExI ls m len st (false, st) := ⟨rfl, h, Int.le_refl _, h0, fun h => by cases h⟩
inductive Sol (ls : List (List Int)) (m : Int) : List Int → Int → List Int → Prop
  | nil {p : List Int} {u : Int} : Sol ls m p u []
  | cons {p w : List Int} {u : Int} {c : Nat} (hm : (c : Int) < m) (hu : (c : Int) ≤ u) (he : earB ls p (c : Int) = false) (h : Sol ls m (p ++ [(c : Int)]) (max u ((c : Int) + 1)) w) : Sol ls m p u ((c : Int) :: w)
end Go.Proofs.Yteknfaldpajlpaa.Nb

namespace Go.Proofs.Yteknfaldpajlpaa.Aw
open Go Go.RowKit
set_option linter.unusedVariables false
set_option linter.unusedSimpArgs false
section
variable {K : Nat → Prop} {w w' : World} {m : Nat → Loc} {B : Nat} {es0 : Array MapEntry} {c0 : Nat}
end
section
variable {P : Program} {Old : Nat → Prop} {wi : WI} {K : Nat → Prop} {m : Nat → Loc} {S : Nat → Prop} {H : Hp} {w : World} {N n : Nat} {T : Tp} {o : Oper} {a : Act}
end
section
variable {P : Program} {N n : Nat} {all : Array Oper} {l : List Oper} {G : Tp → Hp → Nat → Prop} {T T' : Tp} {H : Hp} {ty : TypeId} {pos : String} {after : Array Edge} {d : Nat}
inductive VV : AV → Value → Prop
  | v (x : Value) : VV (.v x) x
  | agg2 (x y : Value) : VV (.agg [.v x, .v y]) (.agg #[x, y])
end
theorem VV.val {K : Nat → Prop} {w : World} {m : Nat → Loc} {S : Nat → Prop} {av : AV} {x : Value} (h : VV av x) : VR K w m S av x := by
  cases h with
  | v => exact .v _ _
  | agg2 a b =>
    refine .agg _ _ [a, b] rfl fun j cv y h1 h2 => ?_
    match j with
    | 0 => simp at h1 h2; subst h1 h2; exact .v _ _
    | 1 => simp at h1 h2; subst h1 h2; exact .v _ _
    | j + 2 => simp at h1
section
variable {P : Program} {N n : Nat} {all : Array Oper} {l : List Oper} {G : Tp → Hp → Nat → Prop} {T : Tp} {H : Hp} {ty : TypeId} {pos : String} {after : Array Edge} {d : Nat} {o : Oper}
end
section
variable {P : Program} {Old : Nat → Prop} {wi : WI} {K : Nat → Prop} {m : Nat → Loc} {S : Nat → Prop} {H : Hp} {w : World} {N n g : Nat} {T : Tp} {Q : Exit → Tp → Hp → Nat → Prop}
theorem Rel.reB {id ty sz : Nat} {pl : Bool} {rows rows' : List (List AV)} (hr : Rel Old wi K m S H w) (hl : look H id = some ⟨ty, sz, pl, rows⟩) (hlen : rows'.length = rows.length)
    (hw : ∀ (r : Nat) (row' : List AV), rows'[r]? = some row' → ∃ row, rows[r]? = some row ∧ row'.length = row.length ∧ ∀ (j : Nat) (cv' : AV), row'[j]? = some cv' → ∃ cv, row[j]? = some cv ∧ ∀ x, VR K w m S cv x → VR K w m S cv' x) : Rel Old wi K m S ((id, ⟨ty, sz, false, rows'⟩) :: H) w := by
  have old : ∀ i bi, look ((id, (⟨ty, sz, false, rows'⟩ : Blk)) :: H) i = some bi → ∃ b0, look H i = some b0 ∧ ((i = id ∧ bi = ⟨ty, sz, false, rows'⟩) ∨ bi = b0) := fun i bi h => by
    rw [look_cons] at h
    split at h
    · rename_i he; subst he; simp only [Option.some.injEq] at h; exact ⟨_, hl, .inl ⟨rfl, h.symm⟩⟩
    · exact ⟨bi, h, .inr rfl⟩
  refine { os := hr.os, tape := hr.tape, output := hr.output, size := hr.size, old := hr.old, olt := hr.olt, oown := fun i bi h => ?_, om := fun i bi h => ?_, kb := hr.kb, inS := fun i bi h => ?_, pin := hr.pin, pinS := hr.pinS, own := fun i bi h => ?_, inj := fun i j bi bj hi hj hne => ?_ }
  · obtain ⟨b0, h0, _⟩ := old i bi h; exact hr.oown i b0 h0
  · obtain ⟨b0, h0, hc⟩ := old i bi h
    rcases hc with ⟨rfl, rfl⟩ | rfl
    · exact fun hp hq => hr.om i ⟨ty, sz, pl, rows⟩ hl hp hq
    · exact hr.om i _ h0
  · obtain ⟨b0, h0, _⟩ := old i bi h; exact hr.inS i b0 h0
  · obtain ⟨b0, h0, hc⟩ := old i bi h
    rcases hc with ⟨rfl, rfl⟩ | rfl
    · rcases hr.own i _ hl with ⟨e1, e2⟩ | ⟨hp, hb⟩
      · refine .inl ⟨e1, ?_⟩
        simp only at e2
        rw [e2] at hlen
        exact List.length_eq_zero_iff.1 hlen
      · obtain ⟨cur, c1, c2, c3⟩ := hb.ex
        refine .inr ⟨hp, hb.nk, hb.sz, by have := hb.cap; simp only at this ⊢; rw [hlen]; exact this, hb.capm, (fun h => by cases h), cur, c1, c2, fun r row' hrow => ?_⟩
        obtain ⟨row, hr0, hlen, hcell⟩ := hw r row' hrow
        obtain ⟨g1, g2⟩ := c3 r row hr0
        refine ⟨hlen.trans g1, fun j cv' hj => ?_⟩
        obtain ⟨cv, hj0, hwk⟩ := hcell j cv' hj
        obtain ⟨x, hx, h1, hv⟩ := g2 j cv hj0
        refine ⟨x, hx, h1, (hwk x (hv.mono (fun _ h => h) (fun _ _ => rfl) (fun i hi => hi.1) (fun _ _ => rfl))).mono (fun _ h => h) (fun _ _ => rfl) (fun i hi => ⟨hi, rfl⟩) (fun _ _ => rfl)⟩
    · exact hr.own i _ h0
  · obtain ⟨b1, h1, _⟩ := old i bi hi
    obtain ⟨b2, h2, _⟩ := old j bj hj
    exact hr.inj i j b1 b2 h1 h2 hne
theorem aw_nilB {c : Code} (id r j ety esz : Nat) {ty sz : Nat} {pl : Bool} {rows rows' : List (List AV)} {row : List AV} (hl : look H id = some ⟨ty, sz, pl, rows⟩) (hne : Nat.beq n id = false) (hrow : rows[r]? = some row) (hj : row[j]? = some (.v (.slice none 0 0))) (he : rows.set r (row.set j (.sl n 0 0)) = rows')
    (h : AW P N g c Q T ((id, ⟨ty, sz, false, rows'⟩) :: (n, ⟨ety, esz, true, []⟩) :: H) (n + 1)) : AW P N g c Q T H n := fun Old wi K m a w hp hr ht => by
  have hn : ¬ (fun i => i < n) n := Nat.lt_irrefl n
  have hph := hr.phantom hn ety esz true
  have hm : ∀ i, i < n → updL m n ⟨0, 0, 0, true⟩ i = m i := fun i hi => updL_ne _ _ (fun e => hn (e ▸ hi))
  have eS : addS (fun i => i < n) n (n + 1) = fun i => i < n + 1 := addS_lt (Nat.le_succ n)
  rw [eS] at hph
  have hl2 : look ((n, (⟨ety, esz, true, []⟩ : Blk)) :: H) id = some ⟨ty, sz, pl, rows⟩ := by
    rw [look_cons, if_neg (fun e => by subst e; rw [Nat.beq_refl] at hne; cases hne)]; exact hl
  subst he
  refine h Old wi K _ a w hp (hph.reB hl2 (by simp) fun q row' hq => ?_) (ht.mono (fun _ h => h) (fun _ _ => rfl) (fun i (hi : i < n) => Nat.lt_succ_of_lt hi) hm)
  rw [List.getElem?_set] at hq
  split at hq
  · rename_i e
    subst e
    split at hq
    · simp only [Option.some.injEq] at hq
      subst hq
      refine ⟨row, hrow, by simp, fun k cv' hk => ?_⟩
      rw [List.getElem?_set] at hk
      split at hk
      · rename_i e
        subst e
        split at hk
        · simp only [Option.some.injEq] at hk
          subst hk
          refine ⟨_, hj, fun x hx => ?_⟩
          cases hx
          exact .sl0 _ _ _ _ (Nat.lt_succ_self n)
        · cases hk
      · exact ⟨cv', hk, fun x hx => hx⟩
    · cases hq
  · exact ⟨row', hq, rfl, fun k cv' hk => ⟨cv', hk, fun x hx => hx⟩⟩
end
end Go.Proofs.Yteknfaldpajlpaa.Aw

namespace Go.Proofs.Yteknfaldpajlpaa.Nb
open Go Go.RowKit Go.Proofs.Yteknfaldpajlpaa.Aw Go.Proofs.Yteknfaldpajlpaa.In Go.Proofs.Yteknfaldpajlpaa.Il
set_option linter.unusedSimpArgs false
set_option linter.unusedVariables false
set_option linter.unusedSectionVars false
attribute [local irreducible] AW SQ Step RO RC DE Thn InB
def us (cs : List Int) : Int := cs.foldl (fun u c => max u (c + 1)) 0
theorem Sol.mono {ls : List (List Int)} {m m' : Int} (h : m ≤ m') {p w : List Int} {u : Int} (hS : Sol ls m p u w) : Sol ls m' p u w := by
  induction hS with
  | nil => exact .nil
  | cons hm hu he _ ih => exact .cons (by omega) hu he ih
section
variable (ls : List (List Int)) (hS : NbS ls)
include hS
set_option maxHeartbeats 4000000 in
theorem budgetValid_ro (bu : Int) (k : Nat) : RO Try.prog 53 [.v (.int .i64 bu)] k (.v (.bool (inB bu 1 20000))) [] k := by
  refine RO.ofv' Try.func53 Try.ntmps53 rfl (goFn_of Try.func53 rfl (by kernel_rfl)) rfl rfl ?_
  ((repeat' (first
    | (show SQ _ _ _ _ _ _ _ _; first | apply sq_nil | (apply q_move; exact rfl; exact rfl) | (apply q_assign; exact rfl; exact rfl))
    | (show SQ _ _ _ _ _ _ _ _; (first | (apply q_callU; exact rfl; exact rfl; exact rfl; exact FzL.of rfl; exact within_ro _ _ _ _)); (try simp only [put, rowsOf, plR, List.all_cons, selE, ovr, setH, del, cellsA, splice, isV, List.nil_append, List.cons_append, List.map_cons, List.map_nil, List.length_cons, List.length_nil, List.set_cons_zero, List.set_cons_succ, List.take_succ_cons, List.take_zero, List.take_nil, List.drop_succ_cons, List.drop_zero, List.drop_nil, List.append_nil, List.all_cons, List.all_nil, Bool.and_true, Bool.true_and, Bool.and_false, Bool.false_and, Nat.reduceAdd, Nat.zero_add, Nat.add_zero, Nat.reduceEqDiff, if_true, if_false, reduceIte]))
    | (show AW _ _ _ _ _ _ _ _; first | refine aw_region ?_ | (refine aw_seqk ?_; intro K hK) | refine aw_ret ?_)
    | refine thn_n ?_
    | (refine hK _ _ _ ?_; clear hK K))); all_goals (repeat (clear hK K)))
  all_goals exact fin_r (fin_b rfl rfl)
end
end Go.Proofs.Yteknfaldpajlpaa.Nb

namespace Go.Proofs.Yteknfaldpajlpaa.Sr
open Go Go.RowKit Go.Proofs.Yteknfaldpajlpaa.Aw
set_option linter.unusedSimpArgs false
set_option linter.unusedVariables false
attribute [local irreducible] AW SQ Step RO RC DE Thn InB
set_option maxHeartbeats 4000000 in
theorem one_rc (b : Nat) (s : Sr) (n : Int) (h : s.ok 900000) (hn : n ≤ 1000000) (j : Nat) : RC Try.prog 75 [.ptr b 0 0, .v (.int .i64 n)] [(b, ⟨109, 3, false, [srR s]⟩)] j (.v (.bool ((pk s n).1 == 0))) [(b, some ⟨109, 3, false, [srR (pk s n).2]⟩)] j := by
  refine RC.ofc [b] 0 [.ptr 0 0 0, .v (.int .i64 n)] [(0, ⟨109, 3, false, [srR s]⟩)] (.v (.bool ((pk s n).1 == 0))) [(0, some ⟨109, 3, false, [srR (pk s n).2]⟩)] Try.func75 Try.ntmps75 rfl (goFn_of Try.func75 rfl (by kernel_rfl)) rfl rfl rfl rfl rfl rfl rfl rfl (by simp_all) rfl ?_
  have hp := pick_rc 0 s n h hn
  ((repeat' (first
    | (show SQ _ _ _ _ _ _ _ _; first | apply sq_nil | (apply q_move; exact rfl; exact rfl) | (apply q_assign; exact rfl; exact rfl) | (apply q_eql; exact rfl; exact rfl; exact rfl))
    | (show SQ _ _ _ _ _ _ _ _; (first | (apply q_callC; exact rfl; exact rfl; exact rfl; exact hp _; (focus ((repeat (first | exact trivial | refine ⟨by first | exact rfl | assumption, ?_⟩)); done)); skip)); (try simp only [put, rowsOf, plR, List.all_cons, selE, ovr, setH, del, cellsA, splice, isV, List.nil_append, List.cons_append, List.map_cons, List.map_nil, List.length_cons, List.length_nil, List.set_cons_zero, List.set_cons_succ, List.take_succ_cons, List.take_zero, List.take_nil, List.drop_succ_cons, List.drop_zero, List.drop_nil, List.append_nil, List.all_cons, List.all_nil, Bool.and_true, Bool.true_and, Bool.and_false, Bool.false_and, Nat.reduceAdd, Nat.zero_add, Nat.add_zero, Nat.reduceEqDiff, if_true, if_false, reduceIte]))
    | (show AW _ _ _ _ _ _ _ _; first | refine aw_region ?_ | (refine aw_seqk ?_; intro K hK) | refine aw_ret ?_)
    | refine thn_n ?_
    | (refine hK _ _ _ ?_; clear hK K))); all_goals (repeat (clear hK K)))
  exact finc (fun i => i) (.r1 _ _ (.tmp _ _ rfl)) rfl (fun _ _ => rfl) ⟨rfl, trivial⟩ rfl
def am (ws : List Int) (s : Sr) : Int × Sr := (ws.getD (pk s ws.length).1.toNat 0, (pk s ws.length).2)
theorem am_ok {s : Sr} {k : Int} (ws : List Int) (h : s.ok k) : (am ws s).2.ok (k + 2) := pk_ok _ h
def nuR (ws : List Int) : List (List AV) := ws.map fun w => [.v (.int .i64 w)]
set_option maxHeartbeats 4000000 in
theorem among_rc (b c : Nat) (s : Sr) (ws : List Int) (hbc : b ≠ c) (h : s.ok 900000) (hw : 1 ≤ ws.length) (hw2 : ws.length ≤ 1000) (k : Nat) :
    RC Try.prog 76 [.ptr b 0 0, .sl c 0 ws.length] [(b, ⟨109, 3, false, [srR s]⟩), (c, ⟨2, 1, true, nuR ws⟩)] k (.v (.int .i64 (am ws s).1)) [(b, some ⟨109, 3, false, [srR (am ws s).2]⟩), (c, some ⟨2, 1, true, nuR ws⟩)] k := by
  have hp := pk_bd s ws.length (by omega)
  obtain ⟨i, hi⟩ : ∃ i : Nat, (pk s ws.length).1 = i := ⟨(pk s ws.length).1.toNat, by omega⟩
  have hil : i < ws.length := by omega
  have hr2 : (nuR ws)[0 + ((i : Int)).toNat]? = some [.v (.int .i64 ws[i])] := by simp [nuR, hil]
  have hv : (am ws s).1 = ws[i] := by simp [am, hi, hil]
  have hs : (am ws s).2 = (pk s ws.length).2 := rfl
  rw [hv, hs]
  refine RC.ofc [b, c] 0 [.ptr 0 0 0, .sl 1 0 ws.length] [(0, ⟨109, 3, false, [srR s]⟩), (1, ⟨2, 1, true, nuR ws⟩)] (.v (.int .i64 ws[i])) [(0, some ⟨109, 3, false, [srR (pk s ws.length).2]⟩), (1, some ⟨2, 1, true, nuR ws⟩)] Try.func76 Try.ntmps76 rfl (goFn_of Try.func76 rfl (by kernel_rfl)) rfl rfl rfl rfl rfl rfl rfl rfl (by simp_all) rfl ?_
  have hpk := pick_rc 0 s (ws.length : Int) h (by omega)
  rw [hi] at hpk
  ((repeat' (first
    | (show SQ _ _ _ _ _ _ _ _; first | apply sq_nil | (apply q_move; exact rfl; exact rfl) | (apply q_assign; exact rfl; exact rfl) | (apply q_lenl; exact rfl; exact rfl; exact (ty rfl); exact rfl) | (apply q_ixl; exact rfl; exact rfl; exact rfl; exact (ty rfl); exact rfl; exact rfl; exact rfl; exact (by first | omega | (simp; done) | (simp; omega)); exact (by first | omega | (simp; done) | (simp; omega))) | (apply q_ld1p; exact rfl; exact rfl; exact (ty rfl); exact rfl; exact rfl; exact (by first | rfl | assumption | ((try simp only [Nat.zero_add]); refine List.getElem?_set_self ?_; (try simp only [List.length_set]); assumption)); exact rfl))
    | (show SQ _ _ _ _ _ _ _ _; (first | (apply q_callC; exact rfl; exact rfl; exact rfl; exact hpk _; (focus ((repeat (first | exact trivial | refine ⟨by first | exact rfl | assumption, ?_⟩)); done)); skip)); (try simp only [put, rowsOf, plR, List.all_cons, selE, ovr, setH, del, cellsA, splice, isV, List.nil_append, List.cons_append, List.map_cons, List.map_nil, List.length_cons, List.length_nil, List.set_cons_zero, List.set_cons_succ, List.take_succ_cons, List.take_zero, List.take_nil, List.drop_succ_cons, List.drop_zero, List.drop_nil, List.append_nil, List.all_cons, List.all_nil, Bool.and_true, Bool.true_and, Bool.and_false, Bool.false_and, Nat.reduceAdd, Nat.zero_add, Nat.add_zero, Nat.reduceEqDiff, if_true, if_false, reduceIte]))
    | (show AW _ _ _ _ _ _ _ _; first | refine aw_region ?_ | (refine aw_seqk ?_; intro K hK) | refine aw_ret ?_)
    | refine thn_n ?_
    | (refine hK _ _ _ ?_; clear hK K))); all_goals (repeat (clear hK K)))
  exact finc (fun i => i) (.r1 _ _ (.tmp _ _ rfl)) rfl (fun _ _ => rfl) ⟨rfl, rfl, trivial⟩ rfl
end Go.Proofs.Yteknfaldpajlpaa.Sr

namespace Go.Proofs.Yteknfaldpajlpaa.Nb
open Go Go.RowKit Go.Proofs.Yteknfaldpajlpaa.Aw Go.Proofs.Yteknfaldpajlpaa.In Go.Proofs.Yteknfaldpajlpaa.Il Go.Proofs.Yteknfaldpajlpaa.Sr
set_option linter.unusedSimpArgs false
set_option linter.unusedVariables false
set_option linter.unusedSectionVars false
attribute [local irreducible] AW SQ Step RO RC DE Thn InB
theorem nbL_app (ls : List (List Int)) (l : List Int) : nbL (ls ++ [l]) = nbL ls ++ [[.dsl 1 (l.map inL)]] := by simp [nbL]
theorem nbL_no (ls : List (List Int)) : (nbL ls).all noOwnL = true := all_noOwn_map fun _ => rfl
end Go.Proofs.Yteknfaldpajlpaa.Nb

namespace Go.Proofs.Yteknfaldpajlpaa.Nb
open Go Go.RowKit Go.Proofs.Yteknfaldpajlpaa.Aw Go.Proofs.Yteknfaldpajlpaa.In Go.Proofs.Yteknfaldpajlpaa.Il Go.Proofs.Yteknfaldpajlpaa.Sr
set_option linter.unusedSimpArgs false
set_option linter.unusedVariables false
set_option linter.unusedSectionVars false
attribute [local irreducible] AW SQ Step RO RC DE Thn InB
theorem l19DrawBudget_ex {s : Sr} {k : Int} (h : s.ok k) (hk : k ≤ 90000) : ∃ (v : Int) (s' : Sr), s'.ok (k + 100) ∧ ∀ j id, RC Try.prog 52 [.ptr id 0 0] [(id, ⟨109, 3, false, [srR s]⟩)] j (.v (.int .i64 v)) [(id, some ⟨109, 3, false, [srR s']⟩)] j := by
  have h1 := fun id => pick_rc id s 8 (h.mono (by omega)) (by omega)
  have ok1 := pk_ok 8 h
  generalize pk s 8 = P at *
  obtain ⟨p, s1⟩ := P
  dsimp only at h1 ok1
  by_cases c0 : p = 0
  · have b0 : (p == 0) = true := by simpa using c0
    have a1 := among_rc 0 1 s1 [0, 1, -1, 20001, 3] (by decide) (ok1.mono (by omega)) (by simp) (by simp)
    have ok2 := am_ok [0, 1, -1, 20001, 3] ok1
    generalize am [0, 1, -1, 20001, 3] s1 = A at *
    obtain ⟨v, s2⟩ := A
    dsimp only at a1 ok2
    simp only [nuR, List.map_cons, List.map_nil, List.length_cons, List.length_nil] at a1
    refine ⟨v, s2, ok2.mono (by omega), fun j bi => ?_⟩
    refine RC.ofc [bi] 0 [.ptr 0 0 0] [(0, ⟨109, 3, false, [srR s]⟩)] (.v (.int .i64 v)) [(0, some ⟨109, 3, false, [srR s2]⟩)] Try.func52 Try.ntmps52 rfl (goFn_of Try.func52 rfl (by kernel_rfl)) rfl rfl rfl rfl rfl rfl rfl rfl (by simp_all) rfl ?_
    ((repeat' (first
    | (show SQ _ _ _ _ _ _ _ _; first | apply sq_nil | (apply q_move; exact rfl; exact rfl) | (apply q_assign; exact rfl; exact rfl) | (apply q_eql; exact rfl; exact rfl; exact rfl))
    | (show SQ _ _ _ _ _ _ _ _; (first | (apply q_buildn; exact rfl; exact (ty rfl); exact rfl; exact rfl; exact rfl; exact rfl; exact rfl; exact rfl; exact rfl) | (apply q_callC; exact rfl; exact rfl; exact rfl; exact h1 0 _; (focus ((repeat (first | exact trivial | refine ⟨by first | exact rfl | assumption, ?_⟩)); done)); skip) | (apply q_callC; exact rfl; exact rfl; exact rfl; exact a1 _; (focus ((repeat (first | exact trivial | refine ⟨by first | exact rfl | assumption, ?_⟩)); done)); skip)); (try simp only [put, rowsOf, plR, List.all_cons, selE, ovr, setH, del, cellsA, splice, isV, List.nil_append, List.cons_append, List.map_cons, List.map_nil, List.length_cons, List.length_nil, List.set_cons_zero, List.set_cons_succ, List.take_succ_cons, List.take_zero, List.take_nil, List.drop_succ_cons, List.drop_zero, List.drop_nil, List.append_nil, List.all_cons, List.all_nil, Bool.and_true, Bool.true_and, Bool.and_false, Bool.false_and, Nat.reduceAdd, Nat.zero_add, Nat.add_zero, Nat.reduceEqDiff, if_true, if_false, reduceIte]))
    | (show AW _ _ _ _ _ _ _ _; first | refine aw_region ?_ | (refine aw_seqk ?_; intro K hK) | refine aw_block ?_ | (apply aw_cond_t; exact rfl; exact (by assumption)) | refine aw_ret ?_)
    | refine thn_n ?_
    | (refine hK _ _ _ ?_; clear hK K)
    | refine thn_r ?_
    | refine inb_r ?_)); all_goals (repeat (clear hK K)))
    all_goals exact finc id (.r1 _ _ (.tmp _ _ rfl)) rfl (fun z hz => rfl) ⟨rfl, trivial⟩ rfl
  have b0 : (p == 0) = false := by simpa using c0
  by_cases c1 : p = 1
  · have b1 : (p == 1) = true := by simpa using c1
    have h2 := fun id => pick_rc id s1 40 (ok1.mono (by omega)) (by omega)
    have ok2 := pk_ok 40 ok1
    generalize pk s1 40 = P at *
    obtain ⟨v, s2⟩ := P
    dsimp only at h2 ok2
    refine ⟨IntKind.i64.wrap (v + 1), s2, ok2.mono (by omega), fun j bi => ?_⟩
    refine RC.ofc [bi] 0 [.ptr 0 0 0] [(0, ⟨109, 3, false, [srR s]⟩)] (.v (.int .i64 (IntKind.i64.wrap (v + 1)))) [(0, some ⟨109, 3, false, [srR s2]⟩)] Try.func52 Try.ntmps52 rfl (goFn_of Try.func52 rfl (by kernel_rfl)) rfl rfl rfl rfl rfl rfl rfl rfl (by simp_all) rfl ?_
    ((repeat' (first
    | (show SQ _ _ _ _ _ _ _ _; first | apply sq_nil | (apply q_move; exact rfl; exact rfl) | (apply q_assign; exact rfl; exact rfl) | (apply q_add; exact rfl; exact rfl; exact rfl) | (apply q_eql; exact rfl; exact rfl; exact rfl))
    | (show SQ _ _ _ _ _ _ _ _; (first | (apply q_callC; exact rfl; exact rfl; exact rfl; exact h1 0 _; (focus ((repeat (first | exact trivial | refine ⟨by first | exact rfl | assumption, ?_⟩)); done)); skip) | (apply q_callC; exact rfl; exact rfl; exact rfl; exact h2 0 _; (focus ((repeat (first | exact trivial | refine ⟨by first | exact rfl | assumption, ?_⟩)); done)); skip)); (try simp only [put, rowsOf, plR, List.all_cons, selE, ovr, setH, del, cellsA, splice, isV, List.nil_append, List.cons_append, List.map_cons, List.map_nil, List.length_cons, List.length_nil, List.set_cons_zero, List.set_cons_succ, List.take_succ_cons, List.take_zero, List.take_nil, List.drop_succ_cons, List.drop_zero, List.drop_nil, List.append_nil, List.all_cons, List.all_nil, Bool.and_true, Bool.true_and, Bool.and_false, Bool.false_and, Nat.reduceAdd, Nat.zero_add, Nat.add_zero, Nat.reduceEqDiff, if_true, if_false, reduceIte]))
    | (show AW _ _ _ _ _ _ _ _; first | refine aw_region ?_ | (refine aw_seqk ?_; intro K hK) | refine aw_block ?_ | (apply aw_cond_t; exact rfl; exact (by assumption)) | (apply aw_cond_f; exact rfl; exact (by assumption)) | refine aw_ret ?_)
    | refine thn_n ?_
    | (refine hK _ _ _ ?_; clear hK K)
    | refine thn_r ?_
    | refine inb_r ?_)); all_goals (repeat (clear hK K)))
    all_goals exact finc id (.r1 _ _ (.tmp _ _ rfl)) rfl (fun z hz => rfl) ⟨rfl, trivial⟩ rfl
  · have b1 : (p == 1) = false := by simpa using c1
    have h2 := fun id => pick_rc id s1 1000 (ok1.mono (by omega)) (by omega)
    have ok2 := pk_ok 1000 ok1
    generalize pk s1 1000 = P at *
    obtain ⟨v, s2⟩ := P
    dsimp only at h2 ok2
    refine ⟨IntKind.i64.wrap (300 + v), s2, ok2.mono (by omega), fun j bi => ?_⟩
    refine RC.ofc [bi] 0 [.ptr 0 0 0] [(0, ⟨109, 3, false, [srR s]⟩)] (.v (.int .i64 (IntKind.i64.wrap (300 + v)))) [(0, some ⟨109, 3, false, [srR s2]⟩)] Try.func52 Try.ntmps52 rfl (goFn_of Try.func52 rfl (by kernel_rfl)) rfl rfl rfl rfl rfl rfl rfl rfl (by simp_all) rfl ?_
    ((repeat' (first
    | (show SQ _ _ _ _ _ _ _ _; first | apply sq_nil | (apply q_move; exact rfl; exact rfl) | (apply q_assign; exact rfl; exact rfl) | (apply q_add; exact rfl; exact rfl; exact rfl) | (apply q_eql; exact rfl; exact rfl; exact rfl))
    | (show SQ _ _ _ _ _ _ _ _; (first | (apply q_callC; exact rfl; exact rfl; exact rfl; exact h1 0 _; (focus ((repeat (first | exact trivial | refine ⟨by first | exact rfl | assumption, ?_⟩)); done)); skip) | (apply q_callC; exact rfl; exact rfl; exact rfl; exact h2 0 _; (focus ((repeat (first | exact trivial | refine ⟨by first | exact rfl | assumption, ?_⟩)); done)); skip)); (try simp only [put, rowsOf, plR, List.all_cons, selE, ovr, setH, del, cellsA, splice, isV, List.nil_append, List.cons_append, List.map_cons, List.map_nil, List.length_cons, List.length_nil, List.set_cons_zero, List.set_cons_succ, List.take_succ_cons, List.take_zero, List.take_nil, List.drop_succ_cons, List.drop_zero, List.drop_nil, List.append_nil, List.all_cons, List.all_nil, Bool.and_true, Bool.true_and, Bool.and_false, Bool.false_and, Nat.reduceAdd, Nat.zero_add, Nat.add_zero, Nat.reduceEqDiff, if_true, if_false, reduceIte]))
    | (show AW _ _ _ _ _ _ _ _; first | refine aw_region ?_ | (refine aw_seqk ?_; intro K hK) | refine aw_block ?_ | (apply aw_cond_f; exact rfl; exact (by assumption)) | refine aw_ret ?_ | refine aw_skip ?_)
    | refine thn_n ?_
    | (refine hK _ _ _ ?_; clear hK K)
    | refine inb_n ?_)); all_goals (repeat (clear hK K)))
    all_goals exact finc id (.r1 _ _ (.tmp _ _ rfl)) rfl (fun z hz => rfl) ⟨rfl, trivial⟩ rfl
end Go.Proofs.Yteknfaldpajlpaa.Nb

namespace Go.Proofs.Yteknfaldpajlpaa.Nb
open Go Go.RowKit Go.Proofs.Yteknfaldpajlpaa.Aw Go.Proofs.Yteknfaldpajlpaa.In Go.Proofs.Yteknfaldpajlpaa.Il Go.Proofs.Yteknfaldpajlpaa.Sr
set_option linter.unusedSimpArgs false
set_option linter.unusedVariables false
set_option linter.unusedSectionVars false
attribute [local irreducible] AW SQ Step RO RC DE Thn InB
set_option maxHeartbeats 4000000 in
theorem b10Long_ro (a : List Int) (m : Nat) : RO Try.prog 18 [.dsl 1 (byL a)] m (.v (.bool (decide (1048576 < (a.length : Int))))) [] m := by
  have h1 : (byL a).length = a.length := List.length_map _
  refine RO.ofv' Try.func18 Try.ntmps18 rfl (goFn_of Try.func18 rfl (by kernel_rfl)) rfl rfl ?_
  ((repeat' (first
    | (show SQ _ _ _ _ _ _ _ _; first | apply sq_nil | (apply q_move; exact rfl; exact rfl) | (apply q_assign; exact rfl; exact rfl) | (apply q_lend; exact rfl; exact rfl; exact (ty rfl); exact rfl) | (apply q_gtr; exact rfl; exact rfl; exact rfl))
    | (show AW _ _ _ _ _ _ _ _; first | refine aw_region ?_ | (refine aw_seqk ?_; intro K hK) | refine aw_ret ?_)
    | refine thn_n ?_
    | (refine hK _ _ _ ?_; clear hK K))); all_goals (repeat (clear hK K)))
  all_goals refine fin_r (fin_b rfl ?_)
  all_goals simp_all
end Go.Proofs.Yteknfaldpajlpaa.Nb

namespace Go.Proofs.Yteknfaldpajlpaa.Aw
open Go Go.RowKit
set_option linter.unusedVariables false
section
variable {P : Program} {Old : Nat → Prop} {wi : WI} {K : Nat → Prop} {m : Nat → Loc} {S : Nat → Prop} {H H' : Hp} {w : World} {N n g : Nat} {T : Tp} {a : Act} {Q : Exit → Tp → Hp → Nat → Prop}
def KD (m : Nat → Loc) (H : Hp) (D : Nat → Prop) (K : Nat → Prop) (k : Nat) : Prop := K k ∨ ∃ i b, D i ∧ look H i = some b ∧ (m i).ph = false ∧ k = (m i).blk
theorem kd_rel {D : Nat → Prop} (hr : Rel Old wi K m S H w) (ht : TRel K w m S N T a) (hH : ∀ i b, look H' i = some b → look H i = some b ∧ ¬ D i) {T1 : Tp}
    (hT : ∀ t v', look T1 t = some v' → ∃ v, look T t = some v ∧ ∀ x, VR K w m S v x → VR (KD m H D K) w m S v' x) :
    GK Old K (KD m H D K) ∧ Rel Old wi (KD m H D K) m S H' w ∧ TRel (KD m H D K) w m S N (T1 ++ T) a := by
  have hK : ∀ k, K k → KD m H D K k := fun k h => .inl h
  refine ⟨⟨hK, fun k h ho => ?_⟩, ?_, ht.dn, ht.sz, fun t av h => ?_⟩
  · rcases h with h | ⟨i, b, _, hl, hp, rfl⟩
    · exact h
    · exact absurd ho (hr.oown i b hl hp)
  · refine { os := hr.os, tape := hr.tape, output := hr.output, size := hr.size, old := hr.old, olt := hr.olt, oown := fun i bi h => hr.oown i bi (hH i bi h).1, om := fun i bi h hp hq => ⟨(hr.om i bi (hH i bi h).1 hp hq).1, .inl (hr.om i bi (hH i bi h).1 hp hq).2.1, (hr.om i bi (hH i bi h).1 hp hq).2.2⟩, kb := fun k h => ?_, inS := fun i bi h => hr.inS i bi (hH i bi h).1, pin := hr.pin, pinS := hr.pinS, own := fun i bi h => ?_, inj := fun i j bi bj hi hj hne => hr.inj i j bi bj (hH i bi hi).1 (hH j bj hj).1 hne }
    · rcases h with h | ⟨i, b, _, hl, hp, rfl⟩
      · exact hr.kb k h
      · rcases hr.own i b hl with h | h
        · rw [hp] at h; cases h.1
        · exact h.2.lt_size
    · obtain ⟨hi, hne⟩ := hH i bi h
      refine (hr.own i bi hi).mono2 hK (fun hp hk => ?_) (fun _ _ => rfl) (fun _ _ => rfl) (fun _ h => h) (fun _ _ => rfl) (hr.inS i bi hi)
      rcases hk with hk | ⟨j, b, hd, hl, hp2, he⟩
      · exact hk
      · by_cases e : i = j
        · subst e; exact absurd hd hne
        · exact absurd he (hr.inj i j bi b hi hl e hp hp2)
  · rw [look_append] at h
    cases h1 : look T1 t with
    | some v' =>
      rw [h1] at h
      simp only [Option.some_or, Option.some.injEq] at h
      subst h
      obtain ⟨v, hv, hf⟩ := hT t v' h1
      exact hf _ (ht.tm t v hv)
    | none =>
      rw [h1] at h
      exact (ht.tm t av (by simpa using h)).mono hK (fun _ _ => rfl) (fun _ h => h) (fun _ _ => rfl)
theorem out_vr {K' : Nat → Prop} {id len ty : Nat} {pl : Bool} {rows rows' : List (List AV)} (hr : Rel Old wi K m S H w) (hl : look H id = some ⟨ty, 1, pl, rows⟩) (hk : (m id).ph = false → K' (m id).blk) (hlen : rows'.length = rows.length) (he : len = rows.length)
    (hrow : ∀ (r : Nat) (row' : List AV), rows'[r]? = some row' → ∃ cv cv', row' = [cv'] ∧ rows[r]? = some [cv] ∧ ∀ x, VR K w m (fun i => S i ∧ pl = false) cv x → VR K' w m NoS cv' x) {S' : Nat → Prop} {x : Value} (hv : VR K w m S (.sl id 0 len) x) : VR K' w m S' (.dsl 1 rows') x := by
  cases hv with
  | sl0 _ _ _ ad hS =>
    have : rows' = [] := List.length_eq_zero_iff.1 (by omega)
    subst this; exact .dsl0 _ _ _ _
  | sl _ _ _ _ p c hS hph hp hcc =>
    rcases hr.own id _ hl with ⟨h, _⟩ | ⟨_, hb⟩
    · rw [hph] at h; cases h
    obtain ⟨cur, h1, h2, h3⟩ := hb.ex
    have hcap := hb.cap
    have hsz := hb.sz
    have p0 : p = 0 := by rw [hp, Nat.zero_mul]
    subst p0
    have cell : ∀ (r : Nat) (row' : List AV), rows'[r]? = some row' → ∃ cv' y, row' = [cv'] ∧ w.cell? ⟨(m id).blk, r, none⟩ = some y ∧ y.oneCell' = true ∧ VR K' w m NoS cv' y := by
      intro r row' hr'
      obtain ⟨cv, cv', e1, e2, e3⟩ := hrow r row' hr'
      obtain ⟨y, hy, hone, hvy⟩ := (h3 r _ e2).2 0 cv rfl
      refine ⟨cv', y, e1, ?_, hone, e3 y hvy⟩
      have : w.cell? ⟨(m id).blk, r * 1 + 0, none⟩ = some y := by
        rw [cell_of_row w _ _ _ _ _ h1]; exact hy
      simpa using this
    refine .dsl _ 1 rows' len (m id).blk 0 c (fun r j => (w.cell? ⟨(m id).blk, r, none⟩).getD undef) (he.trans hlen.symm) ?_ (hk hph) (fun r row' h => ?_) (fun r row' j cv h hj => ?_) (fun r row' j cv h hj => ?_)
    · dsimp only at hcap; rw [hlen]; omega
    · obtain ⟨cv', y, e1, _⟩ := cell r row' h; rw [e1]; rfl
    · obtain ⟨cv', y, e1, e2, e3, _⟩ := cell r row' h
      subst e1
      have j0 : j = 0 := by
        cases j with
        | zero => rfl
        | succ j => simp at hj
      subst j0
      rw [show 0 + r * 1 + 0 = r by omega, e2]
      exact ⟨rfl, e3⟩
    · obtain ⟨cv', y, e1, e2, e3, e4⟩ := cell r row' h
      subst e1
      have j0 : j = 0 := by
        cases j with
        | zero => rfl
        | succ j => simp at hj
      subst j0
      simp only [List.getElem?_cons_zero, Option.some.injEq] at hj
      subst hj
      rw [e2]; exact e4
theorem nest_vr {k0 len : Nat} {ty ity : TypeId} {Ls : List (List (List AV))} {D : Nat → Prop} (hr : Rel Old wi K m S H w) (hl : look H k0 = some (nestB ty k0 Ls)) (hn : NstIn H (k0 + 1) (Ls.map (blkR ity))) (hno : ∀ L ∈ Ls, L.all noOwnL = true) (he : len = Ls.length)
    (hD : ∀ i, k0 ≤ i → i ≤ k0 + Ls.length → D i) {x : Value} (hv : VR K w m S (.sl k0 0 len) x) : VR (KD m H D K) w m S (.dsl 1 (Ls.map fun rows => [.dsl 1 rows])) x := by
  have hlen := outR_len (Ls.map List.length) (k0 + 1)
  rw [List.length_map] at hlen
  refine out_vr hr hl (fun hp => .inr ⟨k0, _, hD k0 (Nat.le_refl _) (by omega), hl, hp, rfl⟩) (by rw [List.length_map, hlen]) (by rw [hlen]; exact he) (fun r row' h => ?_) hv
  rw [List.getElem?_map] at h
  cases hr' : Ls[r]? with
  | none => rw [hr'] at h; cases h
  | some rows =>
    rw [hr'] at h
    simp only [Option.map_some, Option.some.injEq] at h
    have hrl : r < Ls.length := (List.getElem?_eq_some_iff.1 hr').1
    refine ⟨.sl (k0 + 1 + r) 0 rows.length, .dsl 1 rows, h.symm, ?_, fun y hy => ?_⟩
    · show (outR (k0 + 1) (Ls.map List.length))[r]? = _
      rw [outR_get, List.getElem?_map, hr']; rfl
    · have hb := hn r (blkR ity rows) (by rw [List.getElem?_map, hr']; rfl)
      have hf : Frz (k0 + 1 + r) (blkR ity rows) (.sl (k0 + 1 + r) 0 rows.length) (.dsl 1 rows) := by
        have := Frz.sl (id := k0 + 1 + r) (b := blkR ity rows) 0 rows.length (by show 0 + rows.length ≤ rows.length; omega)
        have e : ((blkR ity rows).rows.drop 0).take rows.length = rows := by show (rows.drop 0).take rows.length = rows; rw [List.drop_zero, List.take_length]
        rw [e] at this; exact this
      have := hf.vr hr hb (Closed.of (hno rows (List.mem_of_getElem? hr'))) (K' := KD m H D K) (fun k h => .inl h) (fun hp => .inr ⟨k0 + 1 + r, _, hD _ (by omega) (by omega), hb, hp, rfl⟩) (S' := NoS) (hy.mono (fun _ h => h) (fun _ _ => rfl) (fun _ h => h.1) (fun _ _ => rfl))
      exact this
end
end Go.Proofs.Yteknfaldpajlpaa.Aw

namespace Go.Proofs.Yteknfaldpajlpaa.Nb
open Go Go.RowKit Go.Proofs.Yteknfaldpajlpaa.Aw Go.Proofs.Yteknfaldpajlpaa.In Go.Proofs.Yteknfaldpajlpaa.Il
set_option linter.unusedSimpArgs false
set_option linter.unusedVariables false
set_option linter.unusedSectionVars false
attribute [local irreducible] AW SQ Step RO RC DE Thn InB
def domB (l : List Int) : Bool := decide (1 ≤ l.length) && decide (l.length ≤ 32) && incB l && !l.any fun x => !inB x 0 999
set_option maxHeartbeats 4000000 in
theorem domainOk_ro (l : List Int) (hn : l.length ≤ 1048576) (k : Nat) : RO Try.prog 111 [.dsl 1 (l.map inL)] k (.v (.bool (domB l))) [] k := by
  have hml : (l.map inL).length = l.length := List.length_map _
  have hI := increasing_ro l hn
  have hA := allWithin_ro l (l.map inL) 0 999 rfl hn
  have e : domB l = (decide ((1 : Int) ≤ ((l.map inL).length : Int)) && decide (((l.map inL).length : Int) ≤ 32) && incB l && !l.any fun x => !inB x 0 999) := by
    rw [domB, hml]
    congr 3
    · rw [Bool.eq_iff_iff]; simp; omega
    · rw [Bool.eq_iff_iff]; simp; omega
  rw [e]
  clear e
  generalize (!l.any fun x => !inB x 0 999) = u2 at *
  generalize incB l = u1 at *
  generalize hd1 : decide ((1 : Int) ≤ ((l.map inL).length : Int)) = d1 at *
  generalize hd2 : decide (((l.map inL).length : Int) ≤ 32) = d2 at *
  refine RO.ofv' Try.func111 Try.ntmps111 rfl (goFn_of Try.func111 rfl (by kernel_rfl)) rfl rfl ?_
  cases d1 <;> cases d2 <;> cases u1 <;> cases u2
  all_goals ((repeat' (first
    | (show SQ _ _ _ _ _ _ _ _; first | apply sq_nil | (apply q_move; exact rfl; exact rfl) | (apply q_assign; exact rfl; exact rfl) | (apply q_pick_t; exact rfl; exact rfl; exact rfl; exact (by first | assumption | exact rfl)) | (apply q_pick_f; exact rfl; exact rfl; exact rfl; exact (by first | assumption | exact rfl)) | (apply q_lend; exact rfl; exact rfl; exact (ty rfl); exact rfl) | (apply q_leq; exact rfl; exact rfl; exact rfl) | (apply q_geq; exact rfl; exact rfl; exact rfl) | (apply q_g; exact rfl; exact rfl; exact rfl; exact (by assumption)) | (apply q_s; exact rfl; exact rfl; exact rfl; exact (by assumption); exact rfl) | (apply q_g; exact rfl; exact rfl; exact rfl; exact rfl) | (apply q_s; exact rfl; exact rfl; exact rfl; exact rfl; exact rfl))
    | (show SQ _ _ _ _ _ _ _ _; (first | (apply q_callU; exact rfl; exact rfl; exact rfl; exact FzL.of rfl; exact hI _) | (apply q_callU; exact rfl; exact rfl; exact rfl; exact FzL.of rfl; exact hA _)); (try simp only [put, rowsOf, plR, List.all_cons, selE, ovr, setH, del, cellsA, splice, isV, List.nil_append, List.cons_append, List.map_cons, List.map_nil, List.length_cons, List.length_nil, List.set_cons_zero, List.set_cons_succ, List.take_succ_cons, List.take_zero, List.take_nil, List.drop_succ_cons, List.drop_zero, List.drop_nil, List.append_nil, List.all_cons, List.all_nil, Bool.and_true, Bool.true_and, Bool.and_false, Bool.false_and, Nat.reduceAdd, Nat.zero_add, Nat.add_zero, Nat.reduceEqDiff, if_true, if_false, reduceIte]))
    | (show AW _ _ _ _ _ _ _ _; first | refine aw_region ?_ | (refine aw_seqk ?_; intro K hK) | refine aw_ret ?_)
    | refine thn_n ?_
    | (refine hK _ _ _ ?_; clear hK K))); all_goals (repeat (clear hK K)))
  all_goals exact fin_r (fin_b rfl rfl)
set_option maxHeartbeats 4000000 in
theorem domainsClosure_ro (l : List Int) (hn : l.length ≤ 1048576) (k : Nat) : RO Try.prog 110 [.dsl 1 (l.map inL)] k (.v (.bool (!domB l))) [] k := by
  have hD := domainOk_ro l hn
  refine RO.ofv' Try.func110 Try.ntmps110 rfl (goFn_of Try.func110 rfl (by kernel_rfl)) rfl rfl ?_
  ((repeat' (first
    | (show SQ _ _ _ _ _ _ _ _; first | apply sq_nil | (apply q_move; exact rfl; exact rfl) | (apply q_assign; exact rfl; exact rfl) | (apply q_not; exact rfl; exact rfl))
    | (show SQ _ _ _ _ _ _ _ _; (first | (apply q_callU; exact rfl; exact rfl; exact rfl; exact FzL.of rfl; exact hD _)); (try simp only [put, rowsOf, plR, List.all_cons, selE, ovr, setH, del, cellsA, splice, isV, List.nil_append, List.cons_append, List.map_cons, List.map_nil, List.length_cons, List.length_nil, List.set_cons_zero, List.set_cons_succ, List.take_succ_cons, List.take_zero, List.take_nil, List.drop_succ_cons, List.drop_zero, List.drop_nil, List.append_nil, List.all_cons, List.all_nil, Bool.and_true, Bool.true_and, Bool.and_false, Bool.false_and, Nat.reduceAdd, Nat.zero_add, Nat.add_zero, Nat.reduceEqDiff, if_true, if_false, reduceIte]))
    | (show AW _ _ _ _ _ _ _ _; first | refine aw_region ?_ | (refine aw_seqk ?_; intro K hK) | refine aw_ret ?_)
    | refine thn_n ?_
    | (refine hK _ _ _ ?_; clear hK K))); all_goals (repeat (clear hK K)))
  all_goals exact fin_r (fin_b rfl rfl)
set_option maxHeartbeats 4000000 in
theorem IndexFuncDom_ro (xs : List (List Int)) (hS : NbS xs) (f : FuncId) (p : List Int → Bool) (hf : ∀ x ∈ xs, ∀ m, RO Try.prog f [.dsl 1 (x.map inL)] m (.v (.bool (p x))) [] m) (k : Nat) :
    RO Try.prog 115 [.dsl 1 (nbL xs), .fn f []] k (.v (.int .i64 (ixG p xs))) [] k := by
  have hn := hS.n
  refine RO.ofv' Try.func115 Try.ntmps115 rfl (goFn_of Try.func115 rfl (by kernel_rfl)) rfl rfl ?_
  have hnl := nbL_len xs
  ((repeat' (first
    | (show SQ _ _ _ _ _ _ _ _; first | apply sq_nil | (apply q_move; exact rfl; exact rfl) | (apply q_assign; exact rfl; exact rfl) | (apply q_lend; exact rfl; exact rfl; exact (ty rfl); exact rfl))
    | (show AW _ _ _ _ _ _ _ _; first | refine aw_region ?_ | (refine aw_seqk ?_; intro K hK) | refine aw_block ?_)
    | refine thn_n ?_
    | (refine hK _ _ _ ?_; clear hK K))); all_goals (repeat (clear hK K)))
  refine aw_loop (ρ := id) (ι := Nat) (fun i => ([(8, .v (.int .i64 i)), (7, .v (.int .i64 xs.length)), (1, .fn f []), (0, .dsl 1 (nbL xs))], [], 0))
    (fun i => i ≤ xs.length ∧ ∀ y ∈ xs.take i, p y = false) (fun i => xs.length - i) 0 ⟨Nat.zero_le _, by simp⟩ ⟨⟨lk_i rfl rfl, lk_i rfl (by rw [hnl]), lk_f rfl rfl rfl, lk_d rfl rfl, trivial⟩, trivial, rfl, pin_0⟩ ?_
  rintro i ⟨hi, hp⟩
  by_cases c2 : i < xs.length
  · have b2 : decide ((i : Int) < (xs.length : Int)) = true := by simpa using c2
    have hrow := nbL_get c2
    have hc := hf xs[i] (List.getElem_mem c2)
    by_cases c3 : p xs[i] = true
    · ((repeat' (first
    | (show SQ _ _ _ _ _ _ _ _; first | apply sq_nil | (apply q_move; exact rfl; exact rfl) | (apply q_assign; exact rfl; exact rfl) | (apply q_lss; exact rfl; exact rfl; exact rfl) | (apply q_ixd; exact rfl; exact rfl; exact rfl; exact (ty rfl); exact rfl; exact (by first | omega | (simp; done) | (simp; omega)); exact (by first | omega | (simp; done) | (simp; omega)); exact (by first | rfl | assumption)) | (apply q_ld1d; exact rfl; exact rfl; exact (ty rfl); exact rfl; exact rfl))
    | (show SQ _ _ _ _ _ _ _ _; (first | (apply q_callU; exact rfl; exact rfl; exact rfl; exact FzL.of rfl; exact hc _)); (try simp only [put, rowsOf, plR, List.all_cons, selE, ovr, setH, del, cellsA, splice, isV, List.nil_append, List.cons_append, List.map_cons, List.map_nil, List.length_cons, List.length_nil, List.set_cons_zero, List.set_cons_succ, List.take_succ_cons, List.take_zero, List.take_nil, List.drop_succ_cons, List.drop_zero, List.drop_nil, List.append_nil, List.all_cons, List.all_nil, Bool.and_true, Bool.true_and, Bool.and_false, Bool.false_and, Nat.reduceAdd, Nat.zero_add, Nat.add_zero, Nat.reduceEqDiff, if_true, if_false, reduceIte]))
    | (show AW _ _ _ _ _ _ _ _; first | refine aw_region ?_ | (refine aw_seqk ?_; intro K hK) | refine aw_block ?_ | (apply aw_cond_t; exact rfl; exact (by assumption)) | refine aw_ret ?_ | refine aw_skip ?_)
    | refine thn_n ?_
    | (refine hK _ _ _ ?_; clear hK K)
    | refine thn_r ?_
    | refine inb_r ?_)); all_goals (repeat (clear hK K)))
      all_goals refine fin_r (fin_i rfl ?_)
      exact (ixG_hit c2 hp c3).symm
    · have c3 : p xs[i] = false := by simpa using c3
      ((repeat' (first
    | (show SQ _ _ _ _ _ _ _ _; first | apply sq_nil | (apply q_move; exact rfl; exact rfl) | (apply q_assign; exact rfl; exact rfl) | (apply q_add; exact rfl; exact rfl; exact rfl) | (apply q_lss; exact rfl; exact rfl; exact rfl) | (apply q_ixd; exact rfl; exact rfl; exact rfl; exact (ty rfl); exact rfl; exact (by first | omega | (simp; done) | (simp; omega)); exact (by first | omega | (simp; done) | (simp; omega)); exact (by first | rfl | assumption)) | (apply q_ld1d; exact rfl; exact rfl; exact (ty rfl); exact rfl; exact rfl))
    | (show SQ _ _ _ _ _ _ _ _; (first | (apply q_callU; exact rfl; exact rfl; exact rfl; exact FzL.of rfl; exact hc _)); (try simp only [put, rowsOf, plR, List.all_cons, selE, ovr, setH, del, cellsA, splice, isV, List.nil_append, List.cons_append, List.map_cons, List.map_nil, List.length_cons, List.length_nil, List.set_cons_zero, List.set_cons_succ, List.take_succ_cons, List.take_zero, List.take_nil, List.drop_succ_cons, List.drop_zero, List.drop_nil, List.append_nil, List.all_cons, List.all_nil, Bool.and_true, Bool.true_and, Bool.and_false, Bool.false_and, Nat.reduceAdd, Nat.zero_add, Nat.add_zero, Nat.reduceEqDiff, if_true, if_false, reduceIte]))
    | (show AW _ _ _ _ _ _ _ _; first | refine aw_region ?_ | (refine aw_seqk ?_; intro K hK) | refine aw_block ?_ | (apply aw_cond_t; exact rfl; exact (by assumption)) | (apply aw_cond_f; exact rfl; exact (by assumption)) | refine aw_skip ?_)
    | refine thn_n ?_
    | (refine hK _ _ _ ?_; clear hK K)
    | refine inb_n ?_)); all_goals (repeat (clear hK K)))
      refine ⟨i + 1, id, ⟨c2, takeS c2 hp c3⟩, by omega, ⟨lk_i rfl (by rw [IntWalk.i64_in _ (by omega)]; rfl), lk_i rfl rfl, lk_f rfl rfl rfl, lk_d rfl rfl, trivial⟩, trivial, rfl, pin_0⟩
  · have b2 : decide ((i : Int) < (xs.length : Int)) = false := by simpa using c2
    ((repeat' (first
    | (show SQ _ _ _ _ _ _ _ _; first | apply sq_nil | (apply q_assign; exact rfl; exact rfl) | (apply q_lss; exact rfl; exact rfl; exact rfl))
    | (show AW _ _ _ _ _ _ _ _; first | refine aw_region ?_ | (refine aw_seqk ?_; intro K hK) | (apply aw_cond_f; exact rfl; exact (by assumption)) | refine aw_ret ?_ | refine aw_exit ?_)
    | refine thn_n ?_
    | (refine hK _ _ _ ?_; clear hK K)
    | refine thn_e ?_
    | refine inb_same ?_
    | (clear hK K; refine hK _ _ _ ?_; clear hK K))); all_goals (repeat (clear hK K)))
    all_goals refine fin_r (fin_i rfl ?_)
    rw [List.take_of_length_le (by omega)] at hp
    exact (ixG_none p xs hp).symm
set_option maxHeartbeats 4000000 in
theorem ContainsFuncDom_ro (xs : List (List Int)) (hS : NbS xs) (f : FuncId) (p : List Int → Bool) (hf : ∀ x ∈ xs, ∀ m, RO Try.prog f [.dsl 1 (x.map inL)] m (.v (.bool (p x))) [] m) (k : Nat) :
    RO Try.prog 109 [.dsl 1 (nbL xs), .fn f []] k (.v (.bool (xs.any p))) [] k := by
  have hI := IndexFuncDom_ro xs hS f p hf
  refine RO.ofv' Try.func109 Try.ntmps109 rfl (goFn_of Try.func109 rfl (by kernel_rfl)) rfl rfl ?_
  ((repeat' (first
    | (show SQ _ _ _ _ _ _ _ _; first | apply sq_nil | (apply q_move; exact rfl; exact rfl) | (apply q_assign; exact rfl; exact rfl) | (apply q_geq; exact rfl; exact rfl; exact rfl))
    | (show SQ _ _ _ _ _ _ _ _; (first | (apply q_callU; exact rfl; exact rfl; exact rfl; exact FzL.of rfl; exact hI _)); (try simp only [put, rowsOf, plR, List.all_cons, selE, ovr, setH, del, cellsA, splice, isV, List.nil_append, List.cons_append, List.map_cons, List.map_nil, List.length_cons, List.length_nil, List.set_cons_zero, List.set_cons_succ, List.take_succ_cons, List.take_zero, List.take_nil, List.drop_succ_cons, List.drop_zero, List.drop_nil, List.append_nil, List.all_cons, List.all_nil, Bool.and_true, Bool.true_and, Bool.and_false, Bool.false_and, Nat.reduceAdd, Nat.zero_add, Nat.add_zero, Nat.reduceEqDiff, if_true, if_false, reduceIte]))
    | (show AW _ _ _ _ _ _ _ _; first | refine aw_region ?_ | (refine aw_seqk ?_; intro K hK) | refine aw_ret ?_)
    | refine thn_n ?_
    | (refine hK _ _ _ ?_; clear hK K))); all_goals (repeat (clear hK K)))
  all_goals refine fin_r (fin_b rfl ?_)
  exact ixG_any p xs
def domsB (ds : List (List Int)) : Bool := decide (1 ≤ ds.length) && decide (ds.length ≤ 24) && !ds.any fun d => !domB d
set_option maxHeartbeats 4000000 in
theorem domainsOk_ro (ds : List (List Int)) (hS : NbS ds) (k : Nat) : RO Try.prog 101 [.dsl 1 (nbL ds)] k (.v (.bool (domsB ds))) [] k := by
  have hnl := nbL_len ds
  have hC := ContainsFuncDom_ro ds hS 110 (fun d => !domB d) fun d hd m => domainsClosure_ro d (hS.m d hd) m
  have e : domsB ds = (decide ((1 : Int) ≤ ((nbL ds).length : Int)) && decide (((nbL ds).length : Int) ≤ 24) && !ds.any fun d => !domB d) := by
    rw [domsB, hnl]
    congr 2
    · rw [Bool.eq_iff_iff]; simp; omega
    · rw [Bool.eq_iff_iff]; simp; omega
  rw [e]
  clear e
  generalize (ds.any fun d => !domB d) = u1 at *
  generalize hd1 : decide ((1 : Int) ≤ ((nbL ds).length : Int)) = d1 at *
  generalize hd2 : decide (((nbL ds).length : Int) ≤ 24) = d2 at *
  refine RO.ofv' Try.func101 Try.ntmps101 rfl (goFn_of Try.func101 rfl (by kernel_rfl)) rfl rfl ?_
  cases d1 <;> cases d2 <;> cases u1
  all_goals ((repeat' (first
    | (show SQ _ _ _ _ _ _ _ _; first | apply sq_nil | (apply q_move; exact rfl; exact rfl) | (apply q_assign; exact rfl; exact rfl) | (apply q_pick_t; exact rfl; exact rfl; exact rfl; exact (by first | assumption | exact rfl)) | (apply q_pick_f; exact rfl; exact rfl; exact rfl; exact (by first | assumption | exact rfl)) | (apply q_not; exact rfl; exact rfl) | (apply q_lend; exact rfl; exact rfl; exact (ty rfl); exact rfl) | (apply q_leq; exact rfl; exact rfl; exact rfl) | (apply q_geq; exact rfl; exact rfl; exact rfl) | (apply q_g; exact rfl; exact rfl; exact rfl; exact (by assumption)) | (apply q_s; exact rfl; exact rfl; exact rfl; exact (by assumption); exact rfl) | (apply q_s; exact rfl; exact rfl; exact rfl; exact rfl; exact rfl))
    | (show SQ _ _ _ _ _ _ _ _; (first | (apply q_callU; exact rfl; exact rfl; exact rfl; exact FzL.of rfl; exact hC _)); (try simp only [put, rowsOf, plR, List.all_cons, selE, ovr, setH, del, cellsA, splice, isV, List.nil_append, List.cons_append, List.map_cons, List.map_nil, List.length_cons, List.length_nil, List.set_cons_zero, List.set_cons_succ, List.take_succ_cons, List.take_zero, List.take_nil, List.drop_succ_cons, List.drop_zero, List.drop_nil, List.append_nil, List.all_cons, List.all_nil, Bool.and_true, Bool.true_and, Bool.and_false, Bool.false_and, Nat.reduceAdd, Nat.zero_add, Nat.add_zero, Nat.reduceEqDiff, if_true, if_false, reduceIte]))
    | (show AW _ _ _ _ _ _ _ _; first | refine aw_region ?_ | (refine aw_seqk ?_; intro K hK) | refine aw_ret ?_)
    | refine thn_n ?_
    | (refine hK _ _ _ ?_; clear hK K))); all_goals (repeat (clear hK K)))
  all_goals exact fin_r (fin_b rfl rfl)
end Go.Proofs.Yteknfaldpajlpaa.Nb

namespace Go.Proofs.Yteknfaldpajlpaa.Nb
open Go Go.RowKit Go.Proofs.Yteknfaldpajlpaa.Aw Go.Proofs.Yteknfaldpajlpaa.In Go.Proofs.Yteknfaldpajlpaa.Il
set_option linter.unusedSimpArgs false
set_option linter.unusedVariables false
set_option linter.unusedSectionVars false
attribute [local irreducible] AW SQ Step RO RC DE Thn InB
def symB (ap : List (List Int)) (i k : Nat) : Bool := (ap.getD i []).getD k 0 == (ap.getD k []).getD i 0
def rowB (n : Nat) (ap : List (List Int)) (i : Nat) : Bool := decide ((ap.getD i []).length = n) && (!(ap.getD i []).any fun x => !inB x 0 100) && ((ap.getD i []).getD i 0 == 0) && (List.range i).all (symB ap i)
def prB (ds ap : List (List Int)) : Bool := domsB ds && decide (ap.length = ds.length) && (List.range ap.length).all (rowB ds.length ap)
set_option maxHeartbeats 4000000 in
theorem ValidProblem_ro (ds ap : List (List Int)) (hS : NbS ds) (hA : NbS ap) (k : Nat) : RO Try.prog 78 [.agg [.dsl 1 (nbL ds), .dsl 1 (nbL ap)]] k (.v (.bool (prB ds ap))) [] k := by
  have hnl := nbL_len ds
  have hal := nbL_len ap
  have hn := hS.n
  have hna := hA.n
  have hD := domainsOk_ro ds hS
  refine RO.ofv' Try.func78 Try.ntmps78 rfl (goFn_of Try.func78 rfl (by kernel_rfl)) rfl rfl ?_
  cases hd : domsB ds with
  | false =>
    rw [hd] at hD
    ((repeat' (first
    | (show SQ _ _ _ _ _ _ _ _; apply sq_frzp (t := 1); exact rfl; exact rfl; exact (by first | rfl | exact all_noOwn_map (fun _ => rfl) | assumption | exact hclo); exact (by first | rfl | assumption); exact rfl; (try simp only [put, rowsOf, plR, List.all_cons, selE, ovr, setH, del, cellsA, splice, isV, List.nil_append, List.cons_append, List.map_cons, List.map_nil, List.length_cons, List.length_nil, List.set_cons_zero, List.set_cons_succ, List.take_succ_cons, List.take_zero, List.take_nil, List.drop_succ_cons, List.drop_zero, List.drop_nil, List.append_nil, List.all_cons, List.all_nil, Bool.and_true, Bool.true_and, Bool.and_false, Bool.false_and, Nat.reduceAdd, Nat.zero_add, Nat.add_zero, Nat.reduceEqDiff, if_true, if_false, reduceIte]))
    | (show SQ _ _ _ _ _ _ _ _; first | apply sq_nil | (apply q_move; exact rfl; exact rfl) | (apply q_assign; exact rfl; exact rfl) | (apply q_pick_t; exact rfl; exact rfl; exact rfl; exact (by first | assumption | exact rfl)) | (apply q_fieldAddr; exact rfl; exact rfl; exact (ty rfl); exact rfl; exact rfl; exact rfl; exact rfl) | (apply q_not; exact rfl; exact rfl) | (apply q_ld1d; exact rfl; exact rfl; exact (ty rfl); exact rfl; exact rfl) | (apply q_s; exact rfl; exact rfl; exact rfl; exact rfl; exact rfl))
    | (show SQ _ _ _ _ _ _ _ _; (first | (apply q_box; exact rfl; exact rfl; exact rfl) | (apply q_callU; exact rfl; exact rfl; exact rfl; exact FzL.of rfl; exact hD _)); (try simp only [put, rowsOf, plR, List.all_cons, selE, ovr, setH, del, cellsA, splice, isV, List.nil_append, List.cons_append, List.map_cons, List.map_nil, List.length_cons, List.length_nil, List.set_cons_zero, List.set_cons_succ, List.take_succ_cons, List.take_zero, List.take_nil, List.drop_succ_cons, List.drop_zero, List.drop_nil, List.append_nil, List.all_cons, List.all_nil, Bool.and_true, Bool.true_and, Bool.and_false, Bool.false_and, Nat.reduceAdd, Nat.zero_add, Nat.add_zero, Nat.reduceEqDiff, if_true, if_false, reduceIte]))
    | (show AW _ _ _ _ _ _ _ _; first | refine aw_region ?_ | (refine aw_seqk ?_; intro K hK) | (apply aw_cond_t; exact rfl; exact rfl) | refine aw_ret ?_)
    | refine thn_n ?_
    | (refine hK _ _ _ ?_; clear hK K)
    | refine thn_r ?_)); all_goals (repeat (clear hK K)))
    all_goals refine fin_r (fin_b rfl ?_)
    rw [prB, hd]; rfl
  | true =>
    rw [hd] at hD
    cases hq : (((nbL ap).length : Int) != ((nbL ds).length : Int)) with
    | true =>
      ((repeat' (first
    | (show SQ _ _ _ _ _ _ _ _; apply sq_frzp (t := 1); exact rfl; exact rfl; exact (by first | rfl | exact all_noOwn_map (fun _ => rfl) | assumption | exact hclo); exact (by first | rfl | assumption); exact rfl; (try simp only [put, rowsOf, plR, List.all_cons, selE, ovr, setH, del, cellsA, splice, isV, List.nil_append, List.cons_append, List.map_cons, List.map_nil, List.length_cons, List.length_nil, List.set_cons_zero, List.set_cons_succ, List.take_succ_cons, List.take_zero, List.take_nil, List.drop_succ_cons, List.drop_zero, List.drop_nil, List.append_nil, List.all_cons, List.all_nil, Bool.and_true, Bool.true_and, Bool.and_false, Bool.false_and, Nat.reduceAdd, Nat.zero_add, Nat.add_zero, Nat.reduceEqDiff, if_true, if_false, reduceIte]))
    | (show SQ _ _ _ _ _ _ _ _; first | apply sq_nil | (apply q_move; exact rfl; exact rfl) | (apply q_assign; exact rfl; exact rfl) | (apply q_pick_f; exact rfl; exact rfl; exact rfl; exact (by first | assumption | exact rfl)) | (apply q_fieldAddr; exact rfl; exact rfl; exact (ty rfl); exact rfl; exact rfl; exact rfl; exact rfl) | (apply q_not; exact rfl; exact rfl) | (apply q_lend; exact rfl; exact rfl; exact (ty rfl); exact rfl) | (apply q_neq; exact rfl; exact rfl; exact rfl) | (apply q_ld1d; exact rfl; exact rfl; exact (ty rfl); exact rfl; exact rfl) | (apply q_g; exact rfl; exact rfl; exact rfl; exact rfl))
    | (show SQ _ _ _ _ _ _ _ _; (first | (apply q_box; exact rfl; exact rfl; exact rfl) | (apply q_callU; exact rfl; exact rfl; exact rfl; exact FzL.of rfl; exact hD _)); (try simp only [put, rowsOf, plR, List.all_cons, selE, ovr, setH, del, cellsA, splice, isV, List.nil_append, List.cons_append, List.map_cons, List.map_nil, List.length_cons, List.length_nil, List.set_cons_zero, List.set_cons_succ, List.take_succ_cons, List.take_zero, List.take_nil, List.drop_succ_cons, List.drop_zero, List.drop_nil, List.append_nil, List.all_cons, List.all_nil, Bool.and_true, Bool.true_and, Bool.and_false, Bool.false_and, Nat.reduceAdd, Nat.zero_add, Nat.add_zero, Nat.reduceEqDiff, if_true, if_false, reduceIte]))
    | (show AW _ _ _ _ _ _ _ _; first | refine aw_region ?_ | (refine aw_seqk ?_; intro K hK) | (apply aw_cond_t; exact rfl; exact (by assumption)) | refine aw_ret ?_)
    | refine thn_n ?_
    | (refine hK _ _ _ ?_; clear hK K)
    | refine thn_r ?_)); all_goals (repeat (clear hK K)))
      all_goals refine fin_r (fin_b rfl ?_)
      have : decide (ap.length = ds.length) = false := by
        rw [hnl, hal] at hq; simp at hq ⊢; omega
      rw [prB, hd, this]; rfl
    | false =>
      have hlen : ap.length = ds.length := by rw [hnl, hal] at hq; simp at hq; omega
      ((repeat' (first
    | (show SQ _ _ _ _ _ _ _ _; apply sq_frzp (t := 1); exact rfl; exact rfl; exact (by first | rfl | exact all_noOwn_map (fun _ => rfl) | assumption | exact hclo); exact (by first | rfl | assumption); exact rfl; (try simp only [put, rowsOf, plR, List.all_cons, selE, ovr, setH, del, cellsA, splice, isV, List.nil_append, List.cons_append, List.map_cons, List.map_nil, List.length_cons, List.length_nil, List.set_cons_zero, List.set_cons_succ, List.take_succ_cons, List.take_zero, List.take_nil, List.drop_succ_cons, List.drop_zero, List.drop_nil, List.append_nil, List.all_cons, List.all_nil, Bool.and_true, Bool.true_and, Bool.and_false, Bool.false_and, Nat.reduceAdd, Nat.zero_add, Nat.add_zero, Nat.reduceEqDiff, if_true, if_false, reduceIte]))
    | (show SQ _ _ _ _ _ _ _ _; first | apply sq_nil | (apply q_move; exact rfl; exact rfl) | (apply q_assign; exact rfl; exact rfl) | (apply q_pick_f; exact rfl; exact rfl; exact rfl; exact (by first | assumption | exact rfl)) | (apply q_fieldAddr; exact rfl; exact rfl; exact (ty rfl); exact rfl; exact rfl; exact rfl; exact rfl) | (apply q_not; exact rfl; exact rfl) | (apply q_lend; exact rfl; exact rfl; exact (ty rfl); exact rfl) | (apply q_neq; exact rfl; exact rfl; exact rfl) | (apply q_ld1d; exact rfl; exact rfl; exact (ty rfl); exact rfl; exact rfl) | (apply q_g; exact rfl; exact rfl; exact rfl; exact rfl))
    | (show SQ _ _ _ _ _ _ _ _; (first | (apply q_box; exact rfl; exact rfl; exact rfl) | (apply q_callU; exact rfl; exact rfl; exact rfl; exact FzL.of rfl; exact hD _)); (try simp only [put, rowsOf, plR, List.all_cons, selE, ovr, setH, del, cellsA, splice, isV, List.nil_append, List.cons_append, List.map_cons, List.map_nil, List.length_cons, List.length_nil, List.set_cons_zero, List.set_cons_succ, List.take_succ_cons, List.take_zero, List.take_nil, List.drop_succ_cons, List.drop_zero, List.drop_nil, List.append_nil, List.all_cons, List.all_nil, Bool.and_true, Bool.true_and, Bool.and_false, Bool.false_and, Nat.reduceAdd, Nat.zero_add, Nat.add_zero, Nat.reduceEqDiff, if_true, if_false, reduceIte]))
    | (show AW _ _ _ _ _ _ _ _; first | refine aw_region ?_ | (refine aw_seqk ?_; intro K hK) | refine aw_block ?_ | (apply aw_cond_f; exact rfl; exact (by assumption)) | refine aw_skip ?_)
    | refine thn_n ?_
    | (refine hK _ _ _ ?_; clear hK K))); all_goals (repeat (clear hK K)))
      refine aw_loop (ρ := id) (ι := Nat) (fun i => ([(22, .v (.int .i64 i)), (21, .v (.int .i64 ap.length)), (20, .dsl 1 (nbL ap)), (1, .dptr [.dsl 1 (nbL ds), .dsl 1 (nbL ap)])], [], 1))
        (fun i => i ≤ ap.length ∧ ∀ j, j < i → rowB ds.length ap j = true) (fun i => ap.length - i) 0 ⟨Nat.zero_le _, fun j hj => absurd hj (Nat.not_lt_zero _)⟩ ⟨by (repeat (refine ⟨by first | exact lk_i rfl rfl | exact lk_i rfl (by (try dsimp only); first | rfl | omega | (rw [IntWalk.i64_in _ (by omega)]; first | rfl | omega | (push_cast; omega)) | (simp; done) | (simp; omega)) | exact lk_d rfl rfl | exact lk_p rfl rfl, ?_⟩)); exact trivial, by exact trivial, by rfl, by exact pin_0⟩ ?_
      rintro i ⟨hi, hg⟩
      by_cases c1 : i < ap.length
      · have b1 : decide ((i : Int) < (ap.length : Int)) = true := by simpa using c1
        have hrow := nbL_get c1
        have hm := hA.m _ (List.getElem_mem c1)
        have hlm : (ap[i].map inL).length = ap[i].length := List.length_map _
        have hG : ap.getD i [] = ap[i] := by simp [List.getD, c1]
        have hw : IntKind.i64.wrap ((i : Int) + 1) = ((i + 1 : Nat) : Int) := by rw [IntWalk.i64_in _ (by omega)]; omega
        have hW := allWithin_ro ap[i] (ap[i].map inL) 0 100 rfl hm
        have bad : rowB ds.length ap i = false → prB ds ap = false := fun h => by
          have : (List.range ap.length).all (rowB ds.length ap) = false := by
            rw [← Bool.not_eq_true, List.all_eq_true]
            intro hh
            rw [hh i (List.mem_range.2 c1)] at h; cases h
          rw [prB, this, Bool.and_false]
        cases h1 : (((ap[i].map inL).length : Int) != ((nbL ds).length : Int)) with
        | true =>
          ((repeat' (first
    | (show SQ _ _ _ _ _ _ _ _; first | apply sq_nil | (apply q_move; exact rfl; exact rfl) | (apply q_assign; exact rfl; exact rfl) | (apply q_pick_t; exact rfl; exact rfl; exact rfl; exact (by first | assumption | exact rfl)) | (apply q_fieldAddr; exact rfl; exact rfl; exact (ty rfl); exact rfl; exact rfl; exact rfl; exact rfl) | (apply q_lend; exact rfl; exact rfl; exact (ty rfl); exact rfl) | (apply q_neq; exact rfl; exact rfl; exact rfl) | (apply q_lss; exact rfl; exact rfl; exact rfl) | (apply q_ixd; exact rfl; exact rfl; exact rfl; exact (ty rfl); exact rfl; exact (by first | omega | (simp; done) | (simp; omega)); exact (by first | omega | (simp; done) | (simp; omega)); exact (by first | rfl | assumption)) | (apply q_ld1d; exact rfl; exact rfl; exact (ty rfl); exact rfl; exact rfl) | (apply q_s; exact rfl; exact rfl; exact rfl; exact (by assumption); exact rfl) | (apply q_s; exact rfl; exact rfl; exact rfl; exact rfl; exact rfl))
    | (show AW _ _ _ _ _ _ _ _; first | refine aw_region ?_ | (refine aw_seqk ?_; intro K hK) | refine aw_block ?_ | (apply aw_cond_t; exact rfl; exact rfl) | (apply aw_cond_t; exact rfl; exact (by assumption)) | refine aw_ret ?_ | refine aw_skip ?_)
    | refine thn_n ?_
    | (refine hK _ _ _ ?_; clear hK K)
    | refine thn_r ?_
    | refine inb_r ?_)); all_goals (repeat (clear hK K)))
          all_goals refine fin_r (fin_b rfl ?_)
          refine (bad ?_).symm
          have : decide (ap[i].length = ds.length) = false := by
            rw [hnl, hlm] at h1; simp at h1 ⊢; omega
          rw [rowB, hG, this]; rfl
        | false =>
          have hli : ap[i].length = ds.length := by rw [hnl, hlm] at h1; simp at h1; omega
          cases h2 : (!ap[i].any fun x => !inB x 0 100) with
          | false =>
            rw [h2] at hW
            ((repeat' (first
    | (show SQ _ _ _ _ _ _ _ _; first | apply sq_nil | (apply q_move; exact rfl; exact rfl) | (apply q_assign; exact rfl; exact rfl) | (apply q_pick_t; exact rfl; exact rfl; exact rfl; exact (by first | assumption | exact rfl)) | (apply q_pick_f; exact rfl; exact rfl; exact rfl; exact (by first | assumption | exact rfl)) | (apply q_fieldAddr; exact rfl; exact rfl; exact (ty rfl); exact rfl; exact rfl; exact rfl; exact rfl) | (apply q_not; exact rfl; exact rfl) | (apply q_lend; exact rfl; exact rfl; exact (ty rfl); exact rfl) | (apply q_neq; exact rfl; exact rfl; exact rfl) | (apply q_lss; exact rfl; exact rfl; exact rfl) | (apply q_ixd; exact rfl; exact rfl; exact rfl; exact (ty rfl); exact rfl; exact (by first | omega | (simp; done) | (simp; omega)); exact (by first | omega | (simp; done) | (simp; omega)); exact (by first | rfl | assumption)) | (apply q_ld1d; exact rfl; exact rfl; exact (ty rfl); exact rfl; exact rfl) | (apply q_g; exact rfl; exact rfl; exact rfl; exact (by assumption)) | (apply q_s; exact rfl; exact rfl; exact rfl; exact rfl; exact rfl))
    | (show SQ _ _ _ _ _ _ _ _; (first | (apply q_callU; exact rfl; exact rfl; exact rfl; exact FzL.of rfl; exact hW _)); (try simp only [put, rowsOf, plR, List.all_cons, selE, ovr, setH, del, cellsA, splice, isV, List.nil_append, List.cons_append, List.map_cons, List.map_nil, List.length_cons, List.length_nil, List.set_cons_zero, List.set_cons_succ, List.take_succ_cons, List.take_zero, List.take_nil, List.drop_succ_cons, List.drop_zero, List.drop_nil, List.append_nil, List.all_cons, List.all_nil, Bool.and_true, Bool.true_and, Bool.and_false, Bool.false_and, Nat.reduceAdd, Nat.zero_add, Nat.add_zero, Nat.reduceEqDiff, if_true, if_false, reduceIte]))
    | (show AW _ _ _ _ _ _ _ _; first | refine aw_region ?_ | (refine aw_seqk ?_; intro K hK) | refine aw_block ?_ | (apply aw_cond_t; exact rfl; exact rfl) | (apply aw_cond_t; exact rfl; exact (by assumption)) | refine aw_ret ?_ | refine aw_skip ?_)
    | refine thn_n ?_
    | (refine hK _ _ _ ?_; clear hK K)
    | refine thn_r ?_
    | refine inb_r ?_)); all_goals (repeat (clear hK K)))
            all_goals refine fin_r (fin_b rfl ?_)
            refine (bad ?_).symm
            rw [rowB, hG, h2]; simp
          | true =>
            rw [h2] at hW
            have hr2 : (ap[i].map inL)[((i : Int)).toNat]? = some (inL (ap[i].getD i 0)) := by
              have : i < ap[i].length := by omega
              simp [this, List.getD]
            rw [inL_eq] at hr2
            cases h3 : (ap[i].getD i 0 != 0) with
            | true =>
              ((repeat' (first
    | (show SQ _ _ _ _ _ _ _ _; first | apply sq_nil | (apply q_move; exact rfl; exact rfl) | (apply q_assign; exact rfl; exact rfl) | (apply q_pick_f; exact rfl; exact rfl; exact rfl; exact (by first | assumption | exact rfl)) | (apply q_fieldAddr; exact rfl; exact rfl; exact (ty rfl); exact rfl; exact rfl; exact rfl; exact rfl) | (apply q_not; exact rfl; exact rfl) | (apply q_lend; exact rfl; exact rfl; exact (ty rfl); exact rfl) | (apply q_neq; exact rfl; exact rfl; exact rfl) | (apply q_lss; exact rfl; exact rfl; exact rfl) | (apply q_ixd; exact rfl; exact rfl; exact rfl; exact (ty rfl); exact rfl; exact (by first | omega | (simp; done) | (simp; omega)); exact (by first | omega | (simp; done) | (simp; omega)); exact (by first | rfl | assumption)) | (apply q_ld1d; exact rfl; exact rfl; exact (ty rfl); exact rfl; exact rfl) | (apply q_g; exact rfl; exact rfl; exact rfl; exact (by assumption)) | (apply q_g; exact rfl; exact rfl; exact rfl; exact rfl))
    | (show SQ _ _ _ _ _ _ _ _; (first | (apply q_callU; exact rfl; exact rfl; exact rfl; exact FzL.of rfl; exact hW _)); (try simp only [put, rowsOf, plR, List.all_cons, selE, ovr, setH, del, cellsA, splice, isV, List.nil_append, List.cons_append, List.map_cons, List.map_nil, List.length_cons, List.length_nil, List.set_cons_zero, List.set_cons_succ, List.take_succ_cons, List.take_zero, List.take_nil, List.drop_succ_cons, List.drop_zero, List.drop_nil, List.append_nil, List.all_cons, List.all_nil, Bool.and_true, Bool.true_and, Bool.and_false, Bool.false_and, Nat.reduceAdd, Nat.zero_add, Nat.add_zero, Nat.reduceEqDiff, if_true, if_false, reduceIte]))
    | (show AW _ _ _ _ _ _ _ _; first | refine aw_region ?_ | (refine aw_seqk ?_; intro K hK) | refine aw_block ?_ | (apply aw_cond_t; exact rfl; exact (by assumption)) | refine aw_ret ?_ | refine aw_skip ?_)
    | refine thn_n ?_
    | (refine hK _ _ _ ?_; clear hK K)
    | refine thn_r ?_
    | refine inb_r ?_)); all_goals (repeat (clear hK K)))
              all_goals refine fin_r (fin_b rfl ?_)
              refine (bad ?_).symm
              have : (ap[i].getD i 0 == 0) = false := by simpa using h3
              rw [rowB, hG, this]; simp
            | false =>
              have h3' : (ap[i].getD i 0 == 0) = true := by simpa using h3
              ((repeat' (first
    | (show SQ _ _ _ _ _ _ _ _; first | apply sq_nil | (apply q_move; exact rfl; exact rfl) | (apply q_assign; exact rfl; exact rfl) | (apply q_pick_f; exact rfl; exact rfl; exact rfl; exact (by first | assumption | exact rfl)) | (apply q_fieldAddr; exact rfl; exact rfl; exact (ty rfl); exact rfl; exact rfl; exact rfl; exact rfl) | (apply q_not; exact rfl; exact rfl) | (apply q_lend; exact rfl; exact rfl; exact (ty rfl); exact rfl) | (apply q_neq; exact rfl; exact rfl; exact rfl) | (apply q_lss; exact rfl; exact rfl; exact rfl) | (apply q_ixd; exact rfl; exact rfl; exact rfl; exact (ty rfl); exact rfl; exact (by first | omega | (simp; done) | (simp; omega)); exact (by first | omega | (simp; done) | (simp; omega)); exact (by first | rfl | assumption)) | (apply q_ld1d; exact rfl; exact rfl; exact (ty rfl); exact rfl; exact rfl) | (apply q_g; exact rfl; exact rfl; exact rfl; exact (by assumption)) | (apply q_g; exact rfl; exact rfl; exact rfl; exact rfl))
    | (show SQ _ _ _ _ _ _ _ _; (first | (apply q_callU; exact rfl; exact rfl; exact rfl; exact FzL.of rfl; exact hW _)); (try simp only [put, rowsOf, plR, List.all_cons, selE, ovr, setH, del, cellsA, splice, isV, List.nil_append, List.cons_append, List.map_cons, List.map_nil, List.length_cons, List.length_nil, List.set_cons_zero, List.set_cons_succ, List.take_succ_cons, List.take_zero, List.take_nil, List.drop_succ_cons, List.drop_zero, List.drop_nil, List.append_nil, List.all_cons, List.all_nil, Bool.and_true, Bool.true_and, Bool.and_false, Bool.false_and, Nat.reduceAdd, Nat.zero_add, Nat.add_zero, Nat.reduceEqDiff, if_true, if_false, reduceIte]))
    | (show AW _ _ _ _ _ _ _ _; first | refine aw_region ?_ | (refine aw_seqk ?_; intro K hK) | refine aw_block ?_ | (apply aw_cond_t; exact rfl; exact (by assumption)) | (apply aw_cond_f; exact rfl; exact (by assumption)) | refine aw_skip ?_)
    | refine thn_n ?_
    | (refine hK _ _ _ ?_; clear hK K))); all_goals (repeat (clear hK K)))
              refine aw_loop (ρ := id) (ι := Nat) (fun k => ([(46, .v (.int .i64 k)), (45, .v (.int .i64 i)), (22, .v (.int .i64 i)), (21, .v (.int .i64 ap.length)), (20, .dsl 1 (nbL ap)), (4, .dsl 1 (ap[i].map inL)), (3, .v (.int .i64 i)), (1, .dptr [.dsl 1 (nbL ds), .dsl 1 (nbL ap)])], [], 1))
                (fun k => k ≤ i ∧ ∀ j, j < k → symB ap i j = true) (fun k => i - k) 0 ⟨Nat.zero_le _, fun j hj => absurd hj (Nat.not_lt_zero _)⟩ ⟨by (repeat (refine ⟨by first | exact lk_i rfl rfl | exact lk_d rfl rfl | exact lk_p rfl rfl, ?_⟩)); exact trivial, by exact trivial, by rfl, by exact pin_0⟩ ?_
              rintro k ⟨hk, hgk⟩
              by_cases c2 : k < i
              · have b2 : decide ((k : Int) < (i : Int)) = true := by simpa using c2
                have hkl : k < ap.length := by omega
                have hrowk := nbL_get hkl
                have hGk : ap.getD k [] = ap[k] := by simp [List.getD, hkl]
                have hlmk : (ap[k].map inL).length = ap[k].length := List.length_map _
                have hlk : ap[k].length = ds.length := by
                  have := hg k c2
                  simp only [rowB, Bool.and_eq_true, decide_eq_true_eq, hGk] at this
                  exact this.1.1.1
                have hrk1 : (ap[i].map inL)[((k : Int)).toNat]? = some (inL (ap[i].getD k 0)) := by
                  have : k < ap[i].length := by omega
                  simp [this, List.getD]
                have hrk2 : (ap[k].map inL)[((i : Int)).toNat]? = some (inL (ap[k].getD i 0)) := by
                  have : i < ap[k].length := by omega
                  simp [this, List.getD]
                rw [inL_eq] at hrk1 hrk2
                have hwk : IntKind.i64.wrap ((k : Int) + 1) = ((k + 1 : Nat) : Int) := by rw [IntWalk.i64_in _ (by omega)]; omega
                have hsy : symB ap i k = (ap[i].getD k 0 == ap[k].getD i 0) := by rw [symB, hG, hGk]
                cases h4 : (ap[i].getD k 0 != ap[k].getD i 0) with
                | true =>
                  ((repeat' (first
    | (show SQ _ _ _ _ _ _ _ _; first | apply sq_nil | (apply q_move; exact rfl; exact rfl) | (apply q_assign; exact rfl; exact rfl) | (apply q_lss; exact rfl; exact rfl; exact rfl))
    | (show DE _ _ _ _ _ _ _ _ _ _ _ _; first | (apply e_move; exact rfl; exact rfl; exact rfl) | (apply e_fieldAddr; exact rfl; exact rfl; exact (ty rfl); exact rfl; exact rfl; exact rfl; exact rfl; exact rfl) | (apply e_neq; exact rfl; exact rfl; exact rfl; exact rfl) | (apply e_ixd; exact rfl; exact rfl; exact rfl; exact (ty rfl); exact rfl; exact (by first | omega | (simp; done) | (simp; omega)); exact (by first | omega | (simp; done) | (simp; omega)); exact (by first | rfl | assumption); exact rfl) | (apply e_ld1d; exact rfl; exact rfl; exact (ty rfl); exact rfl; exact rfl; exact rfl))
    | (show DE _ _ _ _ _ _ _ _ _ _ _ _; (first | (apply dr_nil; exact trivial)); (try simp only [put, rowsOf, plR, List.all_cons, selE, ovr, setH, del, cellsA, splice, isV, List.nil_append, List.cons_append, List.map_cons, List.map_nil, List.length_cons, List.length_nil, List.set_cons_zero, List.set_cons_succ, List.take_succ_cons, List.take_zero, List.take_nil, List.drop_succ_cons, List.drop_zero, List.drop_nil, List.append_nil, List.all_cons, List.all_nil, Bool.and_true, Bool.true_and, Bool.and_false, Bool.false_and, Nat.reduceAdd, Nat.zero_add, Nat.add_zero, Nat.reduceEqDiff, if_true, if_false, reduceIte]))
    | (show AW _ _ _ _ _ _ _ _; first | refine aw_region ?_ | (refine aw_seqk ?_; intro K hK) | refine aw_block ?_ | (apply aw_cond_t; exact rfl; exact (by assumption)) | refine aw_ret ?_ | refine aw_skip ?_ | refine aw_drawE (id := 11) [0, 0, 3, 7, 0, 16, 0, 112, 240, 0, 1008, 2032, 4095] [0, 0, 0, 1, 0, 1, 0, 0, 1, 0, 0, 1, 0] mixed (by kernel_rfl) ?_)
    | refine thn_n ?_
    | (refine hK _ _ _ ?_; clear hK K)
    | refine thn_r ?_
    | refine inb_r ?_)); all_goals (repeat (clear hK K)))
                  all_goals refine fin_r (fin_b rfl ?_)
                  refine (bad ?_).symm
                  have e1 : symB ap i k = false := by rw [hsy]; simpa using h4
                  have : (List.range i).all (symB ap i) = false := by
                    rw [← Bool.not_eq_true, List.all_eq_true]
                    intro hh
                    rw [hh k (List.mem_range.2 c2)] at e1; cases e1
                  rw [rowB, this, Bool.and_false]
                | false =>
                  have e1 : symB ap i k = true := by rw [hsy]; simpa using h4
                  ((repeat' (first
    | (show SQ _ _ _ _ _ _ _ _; first | apply sq_nil | (apply q_move; exact rfl; exact rfl) | (apply q_assign; exact rfl; exact rfl) | (apply q_add; exact rfl; exact rfl; exact rfl) | (apply q_lss; exact rfl; exact rfl; exact rfl))
    | (show DE _ _ _ _ _ _ _ _ _ _ _ _; first | (apply e_move; exact rfl; exact rfl; exact rfl) | (apply e_fieldAddr; exact rfl; exact rfl; exact (ty rfl); exact rfl; exact rfl; exact rfl; exact rfl; exact rfl) | (apply e_neq; exact rfl; exact rfl; exact rfl; exact rfl) | (apply e_ixd; exact rfl; exact rfl; exact rfl; exact (ty rfl); exact rfl; exact (by first | omega | (simp; done) | (simp; omega)); exact (by first | omega | (simp; done) | (simp; omega)); exact (by first | rfl | assumption); exact rfl) | (apply e_ld1d; exact rfl; exact rfl; exact (ty rfl); exact rfl; exact rfl; exact rfl))
    | (show DE _ _ _ _ _ _ _ _ _ _ _ _; (first | (apply dr_nil; exact trivial)); (try simp only [put, rowsOf, plR, List.all_cons, selE, ovr, setH, del, cellsA, splice, isV, List.nil_append, List.cons_append, List.map_cons, List.map_nil, List.length_cons, List.length_nil, List.set_cons_zero, List.set_cons_succ, List.take_succ_cons, List.take_zero, List.take_nil, List.drop_succ_cons, List.drop_zero, List.drop_nil, List.append_nil, List.all_cons, List.all_nil, Bool.and_true, Bool.true_and, Bool.and_false, Bool.false_and, Nat.reduceAdd, Nat.zero_add, Nat.add_zero, Nat.reduceEqDiff, if_true, if_false, reduceIte]))
    | (show AW _ _ _ _ _ _ _ _; first | refine aw_region ?_ | (refine aw_seqk ?_; intro K hK) | refine aw_block ?_ | (apply aw_cond_t; exact rfl; exact (by assumption)) | (apply aw_cond_f; exact rfl; exact (by assumption)) | refine aw_skip ?_ | refine aw_drawE (id := 11) [0, 0, 3, 7, 0, 16, 0, 112, 240, 0, 1008, 2032, 4095] [0, 0, 0, 1, 0, 1, 0, 0, 1, 0, 0, 1, 0] mixed (by kernel_rfl) ?_)
    | refine thn_n ?_
    | (refine hK _ _ _ ?_; clear hK K)
    | refine inb_n ?_)); all_goals (repeat (clear hK K)))
                  all_goals (refine ⟨k + 1, id, ⟨c2, fun j hj => ?_⟩, by omega, ?_⟩)
                  · by_cases hjq : j < k
                    · exact hgk j hjq
                    · obtain rfl : j = k := by omega
                      exact e1
                  · (try dsimp only); rw [← hwk]; exact ⟨by (repeat (refine ⟨by first | exact lk_i rfl rfl | exact lk_d rfl rfl | exact lk_p rfl rfl, ?_⟩)); exact trivial, by exact trivial, by rfl, by exact pin_0⟩
              · have b2 : decide ((k : Int) < (i : Int)) = false := by simpa using c2
                ((repeat' (first
    | (show SQ _ _ _ _ _ _ _ _; first | apply sq_nil | (apply q_move; exact rfl; exact rfl) | (apply q_add; exact rfl; exact rfl; exact rfl) | (apply q_lss; exact rfl; exact rfl; exact rfl))
    | (show AW _ _ _ _ _ _ _ _; first | refine aw_region ?_ | (refine aw_seqk ?_; intro K hK) | (apply aw_cond_f; exact rfl; exact (by assumption)) | refine aw_exit ?_)
    | refine thn_n ?_
    | (refine hK _ _ _ ?_; clear hK K)
    | refine thn_e ?_
    | refine inb_same ?_
    | refine inb_n ?_
    | (clear hK K; refine hK _ _ _ ?_; clear hK K))); all_goals (repeat (clear hK K)))
                all_goals (refine ⟨i + 1, id, ⟨c1, fun j hj => ?_⟩, by omega, ?_⟩)
                · by_cases hjq : j < i
                  · exact hg j hjq
                  · obtain rfl : j = i := by omega
                    have : (List.range j).all (symB ap j) = true := List.all_eq_true.2 fun q hq => hgk q (by have := List.mem_range.1 hq; omega)
                    rw [rowB, hG, h2, h3', this]; simp; omega
                · (try dsimp only); rw [← hw]; exact ⟨by (repeat (refine ⟨by first | exact lk_i rfl rfl | exact lk_d rfl rfl | exact lk_p rfl rfl, ?_⟩)); exact trivial, by exact trivial, by rfl, by exact pin_0⟩
      · have b1 : decide ((i : Int) < (ap.length : Int)) = false := by simpa using c1
        ((repeat' (first
    | (show SQ _ _ _ _ _ _ _ _; first | apply sq_nil | (apply q_assign; exact rfl; exact rfl) | (apply q_lss; exact rfl; exact rfl; exact rfl))
    | (show AW _ _ _ _ _ _ _ _; first | refine aw_region ?_ | (refine aw_seqk ?_; intro K hK) | (apply aw_cond_f; exact rfl; exact (by assumption)) | refine aw_ret ?_ | refine aw_exit ?_)
    | refine thn_n ?_
    | (refine hK _ _ _ ?_; clear hK K)
    | refine thn_e ?_
    | refine inb_same ?_
    | (clear hK K; refine hK _ _ _ ?_; clear hK K))); all_goals (repeat (clear hK K)))
        all_goals refine fin_r (fin_b rfl ?_)
        have : (List.range ap.length).all (rowB ds.length ap) = true := List.all_eq_true.2 fun q hq => hg q (by have := List.mem_range.1 hq; omega)
        rw [prB, hd, this, hlen]; simp
end Go.Proofs.Yteknfaldpajlpaa.Nb

namespace Go.Proofs.Yteknfaldpajlpaa.Nb
open Go Go.RowKit Go.Proofs.Yteknfaldpajlpaa.Aw Go.Proofs.Yteknfaldpajlpaa.In Go.Proofs.Yteknfaldpajlpaa.Il
set_option linter.unusedSimpArgs false
set_option linter.unusedVariables false
set_option linter.unusedSectionVars false
attribute [local irreducible] AW SQ Step RO RC DE Thn InB
set_option maxHeartbeats 4000000 in
theorem abs_ro (x : Int) (h0 : -1000000 ≤ x) (h1 : x ≤ 1000000) (k : Nat) : RO Try.prog 102 [.v (.int .i64 x)] k (.v (.int .i64 (max x (-x)))) [] k := by
  have hw : IntKind.i64.wrap (0 - x) = -x := by rw [IntWalk.i64_in _ (by omega)]; omega
  refine RO.ofv' Try.func102 Try.ntmps102 rfl (goFn_of Try.func102 rfl (by kernel_rfl)) rfl rfl ?_
  ((repeat' (first
    | (show SQ _ _ _ _ _ _ _ _; first | apply sq_nil | (apply q_move; exact rfl; exact rfl) | (apply q_assign; exact rfl; exact rfl) | (apply q_neg; exact rfl; exact rfl) | (apply q_max; exact rfl; exact rfl; exact rfl))
    | (show AW _ _ _ _ _ _ _ _; first | refine aw_region ?_ | (refine aw_seqk ?_; intro K hK) | refine aw_ret ?_)
    | refine thn_n ?_
    | (refine hK _ _ _ ?_; clear hK K))); all_goals (repeat (clear hK K)))
  all_goals refine fin_r (fin_i rfl ?_)
  rw [hw, mxI]
  split <;> omega
def cfl (ap : List (List Int)) (list : List Int) (item : Nat) (ch : Int) (i : Nat) : Bool := decide (i ≠ item) && decide (max (ch - list.getD i 0) (-(ch - list.getD i 0)) < (ap.getD item []).getD i 0)
def cfN (ap : List (List Int)) (list : List Int) (item : Nat) (ch : Int) (i : Nat) : Nat := (List.range i).countP (cfl ap list item ch)
theorem cfN_succ (ap : List (List Int)) (list : List Int) (item : Nat) (ch : Int) (i : Nat) : cfN ap list item ch (i + 1) = cfN ap list item ch i + (if cfl ap list item ch i then 1 else 0) := by
  unfold cfN
  rw [List.range_succ, List.countP_append, List.countP_singleton]
theorem cfN_le (ap : List (List Int)) (list : List Int) (item : Nat) (ch : Int) (i : Nat) : cfN ap list item ch i ≤ i := by
  have := List.countP_le_length (p := cfl ap list item ch) (l := List.range i)
  simpa [cfN] using this
set_option maxHeartbeats 4000000 in
theorem conflicts_ro (ds ap : List (List Int)) (list : List Int) (item : Nat) (ch : Int) (hA : NbS ap) (hit : item < ap.length) (hl : list.length ≤ (ap.getD item []).length) (hl2 : list.length ≤ 1000) (hc : 0 ≤ ch ∧ ch ≤ 999) (hv : ∀ x ∈ list, 0 ≤ x ∧ x ≤ 999) (k : Nat) :
    RO Try.prog 103 [.agg [.dsl 1 (nbL ds), .dsl 1 (nbL ap)], .dsl 1 (list.map inL), .v (.int .i64 item), .v (.int .i64 ch)] k (.v (.int .i64 (cfN ap list item ch list.length))) [] k := by
  have hal := nbL_len ap
  have hna := hA.n
  have hml : (list.map inL).length = list.length := List.length_map _
  have hrow := nbL_get hit
  have hG : ap.getD item [] = ap[item] := by simp [List.getD, hit]
  rw [hG] at hl
  have hlm : (ap[item].map inL).length = ap[item].length := List.length_map _
  refine RO.ofv' Try.func103 Try.ntmps103 rfl (goFn_of Try.func103 rfl (by kernel_rfl)) rfl rfl ?_
  ((repeat' (first
    | (show SQ _ _ _ _ _ _ _ _; apply sq_frzp (t := 4); exact rfl; exact rfl; exact (by first | rfl | exact all_noOwn_map (fun _ => rfl) | assumption | exact hclo); exact (by first | rfl | assumption); exact rfl; (try simp only [put, rowsOf, plR, List.all_cons, selE, ovr, setH, del, cellsA, splice, isV, List.nil_append, List.cons_append, List.map_cons, List.map_nil, List.length_cons, List.length_nil, List.set_cons_zero, List.set_cons_succ, List.take_succ_cons, List.take_zero, List.take_nil, List.drop_succ_cons, List.drop_zero, List.drop_nil, List.append_nil, List.all_cons, List.all_nil, Bool.and_true, Bool.true_and, Bool.and_false, Bool.false_and, Nat.reduceAdd, Nat.zero_add, Nat.add_zero, Nat.reduceEqDiff, if_true, if_false, reduceIte]))
    | (show SQ _ _ _ _ _ _ _ _; first | apply sq_nil | (apply q_move; exact rfl; exact rfl) | (apply q_assign; exact rfl; exact rfl) | (apply q_lend; exact rfl; exact rfl; exact (ty rfl); exact rfl))
    | (show SQ _ _ _ _ _ _ _ _; (first | (apply q_box; exact rfl; exact rfl; exact rfl)); (try simp only [put, rowsOf, plR, List.all_cons, selE, ovr, setH, del, cellsA, splice, isV, List.nil_append, List.cons_append, List.map_cons, List.map_nil, List.length_cons, List.length_nil, List.set_cons_zero, List.set_cons_succ, List.take_succ_cons, List.take_zero, List.take_nil, List.drop_succ_cons, List.drop_zero, List.drop_nil, List.append_nil, List.all_cons, List.all_nil, Bool.and_true, Bool.true_and, Bool.and_false, Bool.false_and, Nat.reduceAdd, Nat.zero_add, Nat.add_zero, Nat.reduceEqDiff, if_true, if_false, reduceIte]))
    | (show AW _ _ _ _ _ _ _ _; first | refine aw_region ?_ | (refine aw_seqk ?_; intro K hK) | refine aw_block ?_)
    | refine thn_n ?_
    | (refine hK _ _ _ ?_; clear hK K))); all_goals (repeat (clear hK K)))
  refine aw_loop (ρ := id) (ι := Nat) (fun i => ([(14, .v (.int .i64 i)), (13, .v (.int .i64 list.length)), (12, .dsl 1 (list.map inL)), (9, .v (.int .i64 (cfN ap list item ch i))), (4, .dptr [.dsl 1 (nbL ds), .dsl 1 (nbL ap)]), (3, .v (.int .i64 ch)), (2, .v (.int .i64 item))], [], 1))
    (fun i => i ≤ list.length) (fun i => list.length - i) 0 (Nat.zero_le _) ⟨by (repeat (refine ⟨by first | exact lk_i rfl rfl | exact lk_i rfl (by (try dsimp only); first | rfl | omega | (rw [IntWalk.i64_in _ (by omega)]; first | rfl | omega | (push_cast; omega)) | (simp; done) | (simp; omega)) | exact lk_d rfl rfl | exact lk_p rfl rfl, ?_⟩)); exact trivial, by exact trivial, by rfl, by exact pin_0⟩ ?_
  intro i hi
  have hle := cfN_le ap list item ch i
  have hsu := cfN_succ ap list item ch i
  by_cases c1 : i < list.length
  · have b1 : decide ((i : Int) < (list.length : Int)) = true := by simpa using c1
    have hr1 : (list.map inL)[((i : Int)).toNat]? = some (inL list[i]) := by simp [c1]
    rw [inL_eq] at hr1
    have hD : list.getD i 0 = list[i] := by simp [List.getD, c1]
    have hii : i < ap[item].length := by omega
    have hr2 : (ap[item].map inL)[((i : Int)).toNat]? = some (inL (ap[item].getD i 0)) := by simp [hii, List.getD]
    rw [inL_eq] at hr2
    have hv1 := hv _ (List.getElem_mem c1)
    have hw : IntKind.i64.wrap ((i : Int) + 1) = ((i + 1 : Nat) : Int) := by rw [IntWalk.i64_in _ (by omega)]; omega
    have hwd : IntKind.i64.wrap (ch - list[i]) = ch - list[i] := IntWalk.i64_in _ (by omega)
    have hAb := abs_ro (IntKind.i64.wrap (ch - list[i])) (by rw [hwd]; omega) (by rw [hwd]; omega)
    rw [show max (IntKind.i64.wrap (ch - list[i])) (-IntKind.i64.wrap (ch - list[i])) = max (ch - list[i]) (-(ch - list[i])) by rw [hwd]] at hAb
    have hcf : cfl ap list item ch i = (decide (i ≠ item) && decide (max (ch - list[i]) (-(ch - list[i])) < ap[item].getD i 0)) := by rw [cfl, hD, hG]
    by_cases c2 : i = item
    · have b2 : ((i : Int) != (item : Int)) = false := by simp; omega
      have e : cfl ap list item ch i = false := by rw [hcf]; simp [c2]
      rw [e] at hsu
      ((repeat' (first
    | (show SQ _ _ _ _ _ _ _ _; first | apply sq_nil | (apply q_move; exact rfl; exact rfl) | (apply q_assign; exact rfl; exact rfl) | (apply q_add; exact rfl; exact rfl; exact rfl) | (apply q_lss; exact rfl; exact rfl; exact rfl) | (apply q_ixd; exact rfl; exact rfl; exact rfl; exact (ty rfl); exact rfl; exact (by first | omega | (simp; done) | (simp; omega)); exact (by first | omega | (simp; done) | (simp; omega)); exact (by first | rfl | assumption)) | (apply q_ld1d; exact rfl; exact rfl; exact (ty rfl); exact rfl; exact rfl))
    | (show DE _ _ _ _ _ _ _ _ _ _ _ _; first | (apply e_move; exact rfl; exact rfl; exact rfl) | (apply e_pick_f; exact rfl; exact rfl; exact rfl; exact (by first | assumption | exact rfl); exact rfl) | (apply e_neq; exact rfl; exact rfl; exact rfl; exact rfl) | (apply e_s; exact rfl; exact rfl; exact rfl; exact (by assumption); exact rfl))
    | (show DE _ _ _ _ _ _ _ _ _ _ _ _; (first | (apply dr_nil; exact trivial)); (try simp only [put, rowsOf, plR, List.all_cons, selE, ovr, setH, del, cellsA, splice, isV, List.nil_append, List.cons_append, List.map_cons, List.map_nil, List.length_cons, List.length_nil, List.set_cons_zero, List.set_cons_succ, List.take_succ_cons, List.take_zero, List.take_nil, List.drop_succ_cons, List.drop_zero, List.drop_nil, List.append_nil, List.all_cons, List.all_nil, Bool.and_true, Bool.true_and, Bool.and_false, Bool.false_and, Nat.reduceAdd, Nat.zero_add, Nat.add_zero, Nat.reduceEqDiff, if_true, if_false, reduceIte]))
    | (show AW _ _ _ _ _ _ _ _; first | refine aw_region ?_ | (refine aw_seqk ?_; intro K hK) | refine aw_block ?_ | (apply aw_cond_f; exact rfl; exact rfl) | (apply aw_cond_t; exact rfl; exact (by assumption)) | refine aw_skip ?_ | refine aw_drawE (id := 5) [0, 0, 3, 7, 15, 15, 63, 127, 15, 271, 15, 1807, 3855, 15, 16143, 32527, 65535, 131071] [0, 0, 0, 0, 0, 0, 0, 1, 0, 1, 0, 0, 1, 0, 0, 1, 0, 0] mixed (by kernel_rfl) ?_)
    | refine thn_n ?_
    | (refine hK _ _ _ ?_; clear hK K)
    | refine inb_n ?_)); all_goals (repeat (clear hK K)))
      all_goals (refine ⟨i + 1, id, c1, by omega, ?_⟩; (try dsimp only); rw [hsu, ← hw]; exact ⟨by (repeat (refine ⟨by first | exact lk_i rfl rfl | exact lk_d rfl rfl | exact lk_p rfl rfl, ?_⟩)); exact trivial, by exact trivial, by rfl, by exact pin_0⟩)
    · have b2 : ((i : Int) != (item : Int)) = true := by simp; omega
      cases b3 : decide (max (ch - list[i]) (-(ch - list[i])) < ap[item].getD i 0) with
      | false =>
        have e : cfl ap list item ch i = false := by rw [hcf, b3, Bool.and_false]
        rw [e] at hsu
        ((repeat' (first
    | (show SQ _ _ _ _ _ _ _ _; first | apply sq_nil | (apply q_move; exact rfl; exact rfl) | (apply q_assign; exact rfl; exact rfl) | (apply q_add; exact rfl; exact rfl; exact rfl) | (apply q_lss; exact rfl; exact rfl; exact rfl) | (apply q_ixd; exact rfl; exact rfl; exact rfl; exact (ty rfl); exact rfl; exact (by first | omega | (simp; done) | (simp; omega)); exact (by first | omega | (simp; done) | (simp; omega)); exact (by first | rfl | assumption)) | (apply q_ld1d; exact rfl; exact rfl; exact (ty rfl); exact rfl; exact rfl))
    | (show DE _ _ _ _ _ _ _ _ _ _ _ _; first | (apply e_move; exact rfl; exact rfl; exact rfl) | (apply e_pick_t; exact rfl; exact rfl; exact rfl; exact (by first | assumption | exact rfl); exact rfl) | (apply e_fieldAddr; exact rfl; exact rfl; exact (ty rfl); exact rfl; exact rfl; exact rfl; exact rfl; exact rfl) | (apply e_sub; exact rfl; exact rfl; exact rfl; exact rfl) | (apply e_neq; exact rfl; exact rfl; exact rfl; exact rfl) | (apply e_lss; exact rfl; exact rfl; exact rfl; exact rfl) | (apply e_ixd; exact rfl; exact rfl; exact rfl; exact (ty rfl); exact rfl; exact (by first | omega | (simp; done) | (simp; omega)); exact (by first | omega | (simp; done) | (simp; omega)); exact (by first | rfl | assumption); exact rfl) | (apply e_ld1d; exact rfl; exact rfl; exact (ty rfl); exact rfl; exact rfl; exact rfl) | (apply e_g; exact rfl; exact rfl; exact rfl; exact (by assumption)))
    | (show DE _ _ _ _ _ _ _ _ _ _ _ _; (first | (apply dr_nil; exact trivial) | (apply e_callU; exact rfl; exact rfl; exact rfl; exact FzL.of rfl; exact hAb _; exact rfl)); (try simp only [put, rowsOf, plR, List.all_cons, selE, ovr, setH, del, cellsA, splice, isV, List.nil_append, List.cons_append, List.map_cons, List.map_nil, List.length_cons, List.length_nil, List.set_cons_zero, List.set_cons_succ, List.take_succ_cons, List.take_zero, List.take_nil, List.drop_succ_cons, List.drop_zero, List.drop_nil, List.append_nil, List.all_cons, List.all_nil, Bool.and_true, Bool.true_and, Bool.and_false, Bool.false_and, Nat.reduceAdd, Nat.zero_add, Nat.add_zero, Nat.reduceEqDiff, if_true, if_false, reduceIte]))
    | (show AW _ _ _ _ _ _ _ _; first | refine aw_region ?_ | (refine aw_seqk ?_; intro K hK) | refine aw_block ?_ | (apply aw_cond_t; exact rfl; exact (by assumption)) | (apply aw_cond_f; exact rfl; exact (by assumption)) | refine aw_skip ?_ | refine aw_drawE (id := 5) [0, 0, 3, 7, 15, 15, 63, 127, 15, 271, 15, 1807, 3855, 15, 16143, 32527, 65535, 131071] [0, 0, 0, 0, 0, 0, 0, 1, 0, 1, 0, 0, 1, 0, 0, 1, 0, 0] mixed (by kernel_rfl) ?_)
    | refine thn_n ?_
    | (refine hK _ _ _ ?_; clear hK K)
    | refine inb_n ?_)); all_goals (repeat (clear hK K)))
        all_goals (refine ⟨i + 1, id, c1, by omega, ?_⟩; (try dsimp only); rw [hsu, ← hw]; exact ⟨by (repeat (refine ⟨by first | exact lk_i rfl rfl | exact lk_d rfl rfl | exact lk_p rfl rfl, ?_⟩)); exact trivial, by exact trivial, by rfl, by exact pin_0⟩)
      | true =>
        have e : cfl ap list item ch i = true := by rw [hcf, b3]; simp [c2]
        rw [e] at hsu
        have hwn : IntKind.i64.wrap ((cfN ap list item ch i : Int) + 1) = ((cfN ap list item ch i + 1 : Nat) : Int) := by rw [IntWalk.i64_in _ (by omega)]; omega
        ((repeat' (first
    | (show SQ _ _ _ _ _ _ _ _; first | apply sq_nil | (apply q_move; exact rfl; exact rfl) | (apply q_assign; exact rfl; exact rfl) | (apply q_add; exact rfl; exact rfl; exact rfl) | (apply q_lss; exact rfl; exact rfl; exact rfl) | (apply q_ixd; exact rfl; exact rfl; exact rfl; exact (ty rfl); exact rfl; exact (by first | omega | (simp; done) | (simp; omega)); exact (by first | omega | (simp; done) | (simp; omega)); exact (by first | rfl | assumption)) | (apply q_ld1d; exact rfl; exact rfl; exact (ty rfl); exact rfl; exact rfl))
    | (show DE _ _ _ _ _ _ _ _ _ _ _ _; first | (apply e_move; exact rfl; exact rfl; exact rfl) | (apply e_pick_t; exact rfl; exact rfl; exact rfl; exact (by first | assumption | exact rfl); exact rfl) | (apply e_fieldAddr; exact rfl; exact rfl; exact (ty rfl); exact rfl; exact rfl; exact rfl; exact rfl; exact rfl) | (apply e_sub; exact rfl; exact rfl; exact rfl; exact rfl) | (apply e_neq; exact rfl; exact rfl; exact rfl; exact rfl) | (apply e_lss; exact rfl; exact rfl; exact rfl; exact rfl) | (apply e_ixd; exact rfl; exact rfl; exact rfl; exact (ty rfl); exact rfl; exact (by first | omega | (simp; done) | (simp; omega)); exact (by first | omega | (simp; done) | (simp; omega)); exact (by first | rfl | assumption); exact rfl) | (apply e_ld1d; exact rfl; exact rfl; exact (ty rfl); exact rfl; exact rfl; exact rfl) | (apply e_g; exact rfl; exact rfl; exact rfl; exact (by assumption)))
    | (show DE _ _ _ _ _ _ _ _ _ _ _ _; (first | (apply dr_nil; exact trivial) | (apply e_callU; exact rfl; exact rfl; exact rfl; exact FzL.of rfl; exact hAb _; exact rfl)); (try simp only [put, rowsOf, plR, List.all_cons, selE, ovr, setH, del, cellsA, splice, isV, List.nil_append, List.cons_append, List.map_cons, List.map_nil, List.length_cons, List.length_nil, List.set_cons_zero, List.set_cons_succ, List.take_succ_cons, List.take_zero, List.take_nil, List.drop_succ_cons, List.drop_zero, List.drop_nil, List.append_nil, List.all_cons, List.all_nil, Bool.and_true, Bool.true_and, Bool.and_false, Bool.false_and, Nat.reduceAdd, Nat.zero_add, Nat.add_zero, Nat.reduceEqDiff, if_true, if_false, reduceIte]))
    | (show AW _ _ _ _ _ _ _ _; first | refine aw_region ?_ | (refine aw_seqk ?_; intro K hK) | refine aw_block ?_ | (apply aw_cond_t; exact rfl; exact (by assumption)) | refine aw_skip ?_ | refine aw_drawE (id := 5) [0, 0, 3, 7, 15, 15, 63, 127, 15, 271, 15, 1807, 3855, 15, 16143, 32527, 65535, 131071] [0, 0, 0, 0, 0, 0, 0, 1, 0, 1, 0, 0, 1, 0, 0, 1, 0, 0] mixed (by kernel_rfl) ?_)
    | refine thn_n ?_
    | (refine hK _ _ _ ?_; clear hK K)
    | refine inb_n ?_)); all_goals (repeat (clear hK K)))
        all_goals (refine ⟨i + 1, id, c1, by omega, ?_⟩; (try dsimp only); rw [hsu, if_pos rfl, ← hw, ← hwn]; exact ⟨by (repeat (refine ⟨by first | exact lk_i rfl rfl | exact lk_d rfl rfl | exact lk_p rfl rfl, ?_⟩)); exact trivial, by exact trivial, by rfl, by exact pin_0⟩)
  · have b1 : decide ((i : Int) < (list.length : Int)) = false := by simpa using c1
    obtain rfl : i = list.length := by omega
    ((repeat' (first
    | (show SQ _ _ _ _ _ _ _ _; first | apply sq_nil | (apply q_move; exact rfl; exact rfl) | (apply q_assign; exact rfl; exact rfl) | (apply q_lss; exact rfl; exact rfl; exact rfl))
    | (show AW _ _ _ _ _ _ _ _; first | refine aw_region ?_ | (refine aw_seqk ?_; intro K hK) | (apply aw_cond_f; exact rfl; exact (by assumption)) | refine aw_ret ?_ | refine aw_exit ?_)
    | refine thn_n ?_
    | (refine hK _ _ _ ?_; clear hK K)
    | refine thn_e ?_
    | refine inb_same ?_
    | (clear hK K; refine hK _ _ _ ?_; clear hK K))); all_goals (repeat (clear hK K)))
    all_goals exact fin_r (fin_i rfl rfl)
end Go.Proofs.Yteknfaldpajlpaa.Nb

namespace Go.Proofs.Yteknfaldpajlpaa.Nb
open Go Go.RowKit Go.Proofs.Yteknfaldpajlpaa.Aw Go.Proofs.Yteknfaldpajlpaa.In Go.Proofs.Yteknfaldpajlpaa.Il
set_option linter.unusedSimpArgs false
set_option linter.unusedVariables false
set_option linter.unusedSectionVars false
attribute [local irreducible] AW SQ Step RO RC DE Thn InB
def fitB (ap : List (List Int)) (made : List Int) (ch : Int) : Bool := cfN ap made made.length ch made.length == 0
theorem cfN_zero {ap : List (List Int)} {list : List Int} {item : Nat} {ch : Int} : ∀ i, cfN ap list item ch i = 0 ↔ ∀ j, j < i → cfl ap list item ch j = false
  | 0 => by simp [cfN]
  | i + 1 => by
    rw [cfN_succ]
    constructor
    · intro h j hj
      by_cases e : j = i
      · subst e
        cases hc : cfl ap list item ch j with
        | false => rfl
        | true => rw [hc] at h; simp at h
      · exact (cfN_zero i).1 (by omega) j (by omega)
    · intro h
      rw [h i (Nat.lt_succ_self i), (cfN_zero i).2 fun j hj => h j (by omega)]; rfl
end Go.Proofs.Yteknfaldpajlpaa.Nb

namespace Go.Proofs.Yteknfaldpajlpaa.Nb
open Go Go.RowKit Go.Proofs.Yteknfaldpajlpaa.Aw Go.Proofs.Yteknfaldpajlpaa.In Go.Proofs.Yteknfaldpajlpaa.Il
set_option linter.unusedSimpArgs false
set_option linter.unusedVariables false
set_option linter.unusedSectionVars false
abbrev Rs := Int × List Int
def tryF (nxt : Int → Rs → Bool × Rs) (ap : List (List Int)) (item : Nat) (ch left : Int) (st : Rs) : Bool × Rs :=
  if st.1 < 0 then (false, st) else if fitB ap (st.2.take item) ch = false then (false, st) else if st.1 - 1 < 0 then (false, (st.1 - 1, st.2)) else nxt left (st.1 - 1, st.2.take item ++ [ch])
def domF (nxt : Int → Rs → Bool × Rs) (ap : List (List Int)) (item : Nat) (before left : Int) : List Int → Rs → Bool × Rs
  | [], st => (false, st)
  | c :: cs, st => if c = before then domF nxt ap item before left cs st else if (tryF nxt ap item c (left - 1) st).1 = true then tryF nxt ap item c (left - 1) st else domF nxt ap item before left cs (tryF nxt ap item c (left - 1) st).2
def fstF (nxt : Int → Rs → Bool × Rs) (ap : List (List Int)) (dom : List Int) (item : Nat) (before left : Int) (st : Rs) : Bool × Rs := if (dom.any fun y => y == before) = true then tryF nxt ap item before left st else (false, st)
def repF (ds ap : List (List Int)) (list frz : List Int) : Nat → Int → Rs → Bool × Rs
  | 0, _, st => (true, st)
  | r + 1, left, st => if (fstF (repF ds ap list frz r) ap (ds.getD (list.length - (r + 1)) []) (list.length - (r + 1)) (list.getD (list.length - (r + 1)) 0) left st).1 = true then fstF (repF ds ap list frz r) ap (ds.getD (list.length - (r + 1)) []) (list.length - (r + 1)) (list.getD (list.length - (r + 1)) 0) left st
    else if ((frz.any fun y => y == ((list.length - (r + 1) : Nat) : Int)) || left == 0) = true then (false, (fstF (repF ds ap list frz r) ap (ds.getD (list.length - (r + 1)) []) (list.length - (r + 1)) (list.getD (list.length - (r + 1)) 0) left st).2)
    else domF (repF ds ap list frz r) ap (list.length - (r + 1)) (list.getD (list.length - (r + 1)) 0) left (ds.getD (list.length - (r + 1)) []) (fstF (repF ds ap list frz r) ap (ds.getD (list.length - (r + 1)) []) (list.length - (r + 1)) (list.getD (list.length - (r + 1)) 0) left st).2
structure RpK (n item : Nat) (st : Rs) (q : Bool × Rs) : Prop where
  keep : q.2.2.take item = st.2.take item
  le : item ≤ q.2.2.length
  bud : q.2.1 ≤ st.1
  lo : -1 ≤ q.2.1
  ok : q.1 = true → q.2.2.length = n ∧ 0 ≤ q.2.1
theorem RpK.same {n item : Nat} {st : Rs} (h : item ≤ st.2.length) (h0 : -1 ≤ st.1) : RpK n item st (false, st) := ⟨rfl, h, Int.le_refl _, h0, fun h => by cases h⟩
theorem RpK.trans {n item : Nat} {st : Rs} {q q' : Bool × Rs} (h : RpK n item st q) (h' : RpK n item q.2 q') : RpK n item st q' := ⟨h'.keep.trans h.keep, h'.le, Int.le_trans h'.bud h.bud, h'.lo, h'.ok⟩
theorem tryF_keep {nxt : Int → Rs → Bool × Rs} {ap : List (List Int)} {n item : Nat} {ch left : Int} {st : Rs} (hl : item ≤ st.2.length) (h0 : -1 ≤ st.1) (hn : ∀ left st', 0 ≤ st'.1 → st'.2.length = item + 1 → RpK n (item + 1) st' (nxt left st')) : RpK n item st (tryF nxt ap item ch left st) := by
  have htl : (st.2.take item).length = item := by rw [List.length_take]; omega
  unfold tryF
  split
  · exact .same hl h0
  · split
    · exact .same hl h0
    · split
      · exact ⟨rfl, hl, by show st.1 - 1 ≤ st.1; omega, by show -1 ≤ st.1 - 1; omega, fun h => by cases h⟩
      · have hq := hn left (st.1 - 1, st.2.take item ++ [ch]) (by show 0 ≤ st.1 - 1; omega) (by simp [htl])
        refine ⟨?_, by have := hq.le; omega, by have := hq.bud; dsimp only at this; omega, hq.lo, hq.ok⟩
        have g1 := hq.keep
        dsimp only at g1
        rw [List.take_of_length_le (by simp [htl] : (st.2.take item ++ [ch]).length ≤ item + 1)] at g1
        have := congrArg (List.take item) g1
        rw [List.take_take, Nat.min_eq_left (by omega), List.take_append_of_le_length (by omega), List.take_take, Nat.min_self] at this
        exact this
theorem domF_keep {nxt : Int → Rs → Bool × Rs} {ap : List (List Int)} {n item : Nat} {before left : Int} (hn : ∀ left st', 0 ≤ st'.1 → st'.2.length = item + 1 → RpK n (item + 1) st' (nxt left st')) : ∀ (cs : List Int) (st : Rs), item ≤ st.2.length → -1 ≤ st.1 → RpK n item st (domF nxt ap item before left cs st)
  | [], st, hl, h0 => .same hl h0
  | c :: cs, st, hl, h0 => by
    have ht := tryF_keep (ap := ap) (ch := c) (left := left - 1) hl h0 hn
    unfold domF
    split
    · exact domF_keep hn cs st hl h0
    · split
      · exact ht
      · exact ht.trans (domF_keep hn cs _ ht.le ht.lo)
theorem fstF_keep {nxt : Int → Rs → Bool × Rs} {ap : List (List Int)} {n item : Nat} {dom : List Int} {before left : Int} {st : Rs} (hl : item ≤ st.2.length) (h0 : -1 ≤ st.1) (hn : ∀ left st', 0 ≤ st'.1 → st'.2.length = item + 1 → RpK n (item + 1) st' (nxt left st')) : RpK n item st (fstF nxt ap dom item before left st) := by
  unfold fstF
  split
  · exact tryF_keep hl h0 hn
  · exact .same hl h0
theorem repF_keep {ds ap : List (List Int)} {list frz : List Int} : ∀ (r : Nat) (left : Int) (st : Rs), r ≤ list.length → 0 ≤ st.1 → list.length - r ≤ st.2.length → (r = 0 → st.2.length = list.length) → RpK list.length (list.length - r) st (repF ds ap list frz r left st)
  | 0, left, st, hr, h0, h1, h2 => ⟨rfl, h1, Int.le_refl _, by show -1 ≤ st.1; omega, fun _ => ⟨h2 rfl, h0⟩⟩
  | r + 1, left, st, hr, h0, h1, _ => by
    have hn : ∀ left st', 0 ≤ st'.1 → st'.2.length = list.length - (r + 1) + 1 → RpK list.length (list.length - (r + 1) + 1) st' (repF ds ap list frz r left st') := fun left st' g0 g1 => by
      have := repF_keep (ds := ds) (ap := ap) (list := list) (frz := frz) r left st' (by omega) g0 (by omega) (by omega)
      rwa [show list.length - r = list.length - (r + 1) + 1 by omega] at this
    have hf := fstF_keep (n := list.length) (ap := ap) (dom := ds.getD (list.length - (r + 1)) []) (before := list.getD (list.length - (r + 1)) 0) (left := left) (st := st) h1 (by omega) hn
    unfold repF
    split
    · exact hf
    · split
      · exact ⟨hf.keep, hf.le, hf.bud, hf.lo, fun h => by cases h⟩
      · exact hf.trans (domF_keep hn _ _ hf.le hf.lo)
end Go.Proofs.Yteknfaldpajlpaa.Nb

namespace Go.Proofs.Yteknfaldpajlpaa.Nb
open Go Go.RowKit Go.Proofs.Yteknfaldpajlpaa.Aw Go.Proofs.Yteknfaldpajlpaa.In Go.Proofs.Yteknfaldpajlpaa.Il
set_option linter.unusedSimpArgs false
set_option linter.unusedVariables false
set_option linter.unusedSectionVars false
attribute [local irreducible] AW SQ Step RO RC DE Thn InB
def rsR (ds ap : List (List Int)) (list frz : List Int) (b : Int) (id len : Nat) : List (List AV) := [[.dsl 1 (nbL ds), .dsl 1 (nbL ap), .dsl 1 (list.map inL), .dsl 1 (frz.map inL), .v (.int .i64 b), .sl id 0 len]]
set_option maxHeartbeats 4000000 in
theorem try_rc (ds ap : List (List Int)) (list frz : List Int) (hA : NbS ap) (nxt : Int → Rs → Bool × Rs) (n item : Nat) (hit : item < ap.length) (hrow : item ≤ (ap.getD item []).length) (hi : item ≤ 24)
    (hk : ∀ left st', 0 ≤ st'.1 → st'.2.length = item + 1 → RpK n (item + 1) st' (nxt left st'))
    (hext : ∀ (left : Int) (st' : Rs), 0 ≤ left → left ≤ 100 → 0 ≤ st'.1 → st'.1 ≤ 20000 → st'.2.length = item + 1 → (∀ x ∈ st'.2, 0 ≤ x ∧ x ≤ 999) → ∀ b c : Nat, b ≠ c → ∀ k,
      RC Try.prog 70 [.ptr b 0 0, .v (.int .i64 left)] [(b, ⟨92, 6, false, rsR ds ap list frz st'.1 c (item + 1)⟩), (c, ⟨2, 1, true, st'.2.map inL⟩)] k (.v (.bool (nxt left st').1))
        [(b, some ⟨92, 6, false, rsR ds ap list frz (nxt left st').2.1 k (if (nxt left st').1 = true then n else item + 1)⟩), (c, none), (k, some ⟨2, 1, true, (nxt left st').2.2.map inL⟩)] (k + 1))
    (ch left : Int) (st : Rs) (hch : 0 ≤ ch ∧ ch ≤ 999) (l0 : 0 ≤ left) (l1 : left ≤ 100) (s0 : -1 ≤ st.1) (s1 : st.1 ≤ 20000) (hl : item ≤ st.2.length) (hv : ∀ x ∈ st.2.take item, 0 ≤ x ∧ x ≤ 999) (b c : Nat) (hbc : b ≠ c) (k : Nat) :
    RC Try.prog 98 [.ptr b 0 0, .v (.int .i64 item), .v (.int .i64 ch), .v (.int .i64 left)] [(b, ⟨92, 6, false, rsR ds ap list frz st.1 c item⟩), (c, ⟨2, 1, true, st.2.map inL⟩)] k (.v (.bool (tryF nxt ap item ch left st).1))
      [(b, some ⟨92, 6, false, rsR ds ap list frz (tryF nxt ap item ch left st).2.1 k (if (tryF nxt ap item ch left st).1 = true then n else item)⟩), (c, none), (k, some ⟨2, 1, true, (tryF nxt ap item ch left st).2.2.map inL⟩)] (k + 1) := by
  obtain ⟨b2, bf⟩ := st
  dsimp only at s0 s1 hl hv
  have htl : (bf.take item).length = item := by rw [List.length_take]; omega
  have hml : (bf.map inL).length = bf.length := List.length_map _
  have hdt : ((bf.map inL).drop 0).take item = (bf.take item).map inL := by rw [List.drop_zero, List.map_take]
  have hC := conflicts_ro ds ap (bf.take item) item ch hA hit (by omega) (by omega) hch hv
  rw [htl] at hC
  have hfit : fitB ap (bf.take item) ch = (cfN ap (bf.take item) item ch item == 0) := by rw [fitB, htl]
  generalize hQQ : tryF nxt ap item ch left (b2, bf) = Q
  unfold tryF at hQQ
  dsimp only at hQQ
  generalize cfN ap (bf.take item) item ch item = cf at *
  unfold rsR
  refine RC.ofc [b, c] 1 [.ptr 0 0 0, .v (.int .i64 item), .v (.int .i64 ch), .v (.int .i64 left)] [(0, ⟨92, 6, false, [[.dsl 1 (nbL ds), .dsl 1 (nbL ap), .dsl 1 (list.map inL), .dsl 1 (frz.map inL), .v (.int .i64 b2), .sl 1 0 item]]⟩), (1, ⟨2, 1, true, bf.map inL⟩)] (.v (.bool Q.1)) [(0, some ⟨92, 6, false, [[.dsl 1 (nbL ds), .dsl 1 (nbL ap), .dsl 1 (list.map inL), .dsl 1 (frz.map inL), .v (.int .i64 Q.2.1), .sl 2 0 (if Q.1 = true then n else item)]]⟩), (1, none), (2, some ⟨2, 1, true, Q.2.2.map inL⟩)] Try.func98 Try.ntmps98 rfl (goFn_of Try.func98 rfl (by kernel_rfl)) rfl rfl rfl rfl rfl rfl rfl rfl (by simp_all) rfl ?_
  by_cases c1 : b2 < 0
  · have d1 : decide (b2 < 0) = true := by simpa using c1
    rw [if_pos c1] at hQQ
    subst hQQ
    ((repeat' (first
    | (show SQ _ _ _ _ _ _ _ _; first | apply sq_nil | (apply q_assign; exact rfl; exact rfl))
    | (show DE _ _ _ _ _ _ _ _ _ _ _ _; first | (apply e_move; exact rfl; exact rfl; exact rfl) | (apply e_pick_t; exact rfl; exact rfl; exact rfl; exact (by first | assumption | exact rfl); exact rfl) | (apply e_fieldAddr; exact rfl; exact rfl; exact (ty rfl); exact rfl; exact rfl; exact rfl; exact rfl; exact rfl) | (apply e_nilc; exact rfl; exact rfl; exact rfl; exact rfl) | (apply e_lss; exact rfl; exact rfl; exact rfl; exact rfl) | (apply e_ld1p; exact rfl; exact rfl; exact (ty rfl); exact rfl; exact rfl; exact (by first | rfl | assumption | ((try simp only [Nat.zero_add]); refine List.getElem?_set_self ?_; (try simp only [List.length_set]); assumption)); exact rfl; exact rfl) | (apply e_s; exact rfl; exact rfl; exact rfl; exact (by assumption); exact rfl))
    | (show DE _ _ _ _ _ _ _ _ _ _ _ _; (first | (apply dr_nil; exact trivial)); (try simp only [put, rowsOf, plR, List.all_cons, selE, ovr, setH, del, cellsA, splice, isV, List.nil_append, List.cons_append, List.map_cons, List.map_nil, List.length_cons, List.length_nil, List.set_cons_zero, List.set_cons_succ, List.take_succ_cons, List.take_zero, List.take_nil, List.drop_succ_cons, List.drop_zero, List.drop_nil, List.append_nil, List.all_cons, List.all_nil, Bool.and_true, Bool.true_and, Bool.and_false, Bool.false_and, Nat.reduceAdd, Nat.zero_add, Nat.add_zero, Nat.reduceEqDiff, if_true, if_false, reduceIte]))
    | (show AW _ _ _ _ _ _ _ _; first | refine aw_region ?_ | (refine aw_seqk ?_; intro K hK) | (apply aw_cond_t; exact rfl; exact rfl) | refine aw_ret ?_ | refine aw_drawE (id := 1) [0, 1, 3, 7, 15, 31, 63, 127, 255, 511, 63, 1087, 3135, 7231, 63, 63, 65535, 131071, 262143] [0, 0, 0, 1, 0, 0, 0, 0, 0, 1, 0, 0, 0, 1, 0, 0, 1, 0, 0] mixed (by kernel_rfl) ?_)
    | refine thn_n ?_
    | (refine hK _ _ _ ?_; clear hK K)
    | refine thn_r ?_)); all_goals (repeat (clear hK K)))
    all_goals exact finc (mv 2 1) (.r1 _ _ (.tmp _ _ rfl)) rfl (fun z hz => by simp at hz; simp [mv]; omega) ⟨rfl, rfl, trivial⟩ rfl
  · have d1 : decide (b2 < 0) = false := by simpa using c1
    rw [if_neg c1] at hQQ
    cases hf : fitB ap (bf.take item) ch with
    | false =>
      rw [if_pos hf] at hQQ
      subst hQQ
      have d2 : decide ((0 : Int) < (cf : Int)) = true := by
        rw [hf] at hfit
        have := beq_eq_false_iff_ne.1 hfit.symm
        rw [decide_eq_true_eq]; omega
      ((repeat' (first
    | (show SQ _ _ _ _ _ _ _ _; first | apply sq_nil | (apply q_assign; exact rfl; exact rfl))
    | (show DE _ _ _ _ _ _ _ _ _ _ _ _; first | (apply e_move; exact rfl; exact rfl; exact rfl) | (apply e_pick_f; exact rfl; exact rfl; exact rfl; exact (by first | assumption | exact rfl); exact rfl) | (apply e_fieldAddr; exact rfl; exact rfl; exact (ty rfl); exact rfl; exact rfl; exact rfl; exact rfl; exact rfl) | (apply e_nilc; exact rfl; exact rfl; exact rfl; exact rfl) | (apply e_lss; exact rfl; exact rfl; exact rfl; exact rfl) | (apply e_gtr; exact rfl; exact rfl; exact rfl; exact rfl) | (apply e_ld1p; exact rfl; exact rfl; exact (ty rfl); exact rfl; exact rfl; exact (by first | rfl | assumption | ((try simp only [Nat.zero_add]); refine List.getElem?_set_self ?_; (try simp only [List.length_set]); assumption)); exact rfl; exact rfl) | (apply e_g; exact rfl; exact rfl; exact rfl; exact (by assumption)))
    | (show DE _ _ _ _ _ _ _ _ _ _ _ _; (first | (apply dr_nil; exact trivial) | (apply e_ldap; exact rfl; exact rfl; exact (ty rfl); exact rfl; exact rfl; exact (by first | rfl | assumption | ((try simp only [Nat.zero_add]); refine List.getElem?_set_self ?_; (try simp only [List.length_set]); assumption)); exact rfl; exact rfl) | (apply e_callU; exact rfl; exact rfl; exact rfl; rotate_left; exact hC _; exact rfl; rotate_right; focus ((repeat' (first | exact FzL.nil | exact (by assumption : FzC _) _ | refine FzL.cons ?_ ?_ | exact Fz.of rfl | exact Fz.nil | exact Fz.emp | (apply Fz.fnC; assumption) | (apply Fz.sl2; exact rfl; exact (by first | omega | (simp; done) | (simp; omega)); first | exact rfl | exact dt_full (by first | omega | (simp; done) | (simp; omega)) | assumption) | apply Fz.agg | (apply Fz.ptrL; exact rfl; first | exact rfl | assumption) | apply Fz.fnL)); done))); (try simp only [put, rowsOf, plR, List.all_cons, selE, ovr, setH, del, cellsA, splice, isV, List.nil_append, List.cons_append, List.map_cons, List.map_nil, List.length_cons, List.length_nil, List.set_cons_zero, List.set_cons_succ, List.take_succ_cons, List.take_zero, List.take_nil, List.drop_succ_cons, List.drop_zero, List.drop_nil, List.append_nil, List.all_cons, List.all_nil, Bool.and_true, Bool.true_and, Bool.and_false, Bool.false_and, Nat.reduceAdd, Nat.zero_add, Nat.add_zero, Nat.reduceEqDiff, if_true, if_false, reduceIte]))
    | (show AW _ _ _ _ _ _ _ _; first | refine aw_region ?_ | (refine aw_seqk ?_; intro K hK) | (apply aw_cond_t; exact rfl; exact (by assumption)) | refine aw_ret ?_ | refine aw_drawE (id := 1) [0, 1, 3, 7, 15, 31, 63, 127, 255, 511, 63, 1087, 3135, 7231, 63, 63, 65535, 131071, 262143] [0, 0, 0, 1, 0, 0, 0, 0, 0, 1, 0, 0, 0, 1, 0, 0, 1, 0, 0] mixed (by kernel_rfl) ?_)
    | refine thn_n ?_
    | (refine hK _ _ _ ?_; clear hK K)
    | refine thn_r ?_)); all_goals (repeat (clear hK K)))
      all_goals exact finc (mv 2 1) (.r1 _ _ (.tmp _ _ rfl)) rfl (fun z hz => by simp at hz; simp [mv]; omega) ⟨rfl, rfl, trivial⟩ rfl
    | true =>
      rw [if_neg (by rw [hf]; simp)] at hQQ
      have d2 : decide ((0 : Int) < (cf : Int)) = false := by
        rw [hf] at hfit
        have := beq_iff_eq.1 hfit.symm
        rw [decide_eq_false_iff_not]; omega
      have hwb : IntKind.i64.wrap (b2 - 1) = b2 - 1 := IntWalk.i64_in _ (by omega)
      by_cases c3 : b2 - 1 < 0
      · have d3 : decide (IntKind.i64.wrap (b2 - 1) < 0) = true := by rw [hwb]; simpa using c3
        rw [if_pos c3] at hQQ
        subst hQQ
        ((repeat' (first
    | (show SQ _ _ _ _ _ _ _ _; first | apply sq_nil | (apply q_move; exact rfl; exact rfl) | (apply q_assign; exact rfl; exact rfl) | (apply q_fieldAddr; exact rfl; exact rfl; exact (ty rfl); exact rfl; exact rfl; exact rfl; exact rfl) | (apply q_nilc; exact rfl; exact rfl; exact rfl) | (apply q_sub; exact rfl; exact rfl; exact rfl) | (apply q_lss; exact rfl; exact rfl; exact rfl) | (apply q_ld1p; exact rfl; exact rfl; exact (ty rfl); exact rfl; exact rfl; exact (by first | rfl | assumption | ((try simp only [Nat.zero_add]); refine List.getElem?_set_self ?_; (try simp only [List.length_set]); assumption)); exact rfl))
    | (show SQ _ _ _ _ _ _ _ _; (first | (apply q_store; exact rfl; exact rfl; exact (ty rfl); exact rfl; exact (by first | rfl | assumption | ((try simp only [Nat.zero_add]); refine List.getElem?_set_self ?_; (try simp only [List.length_set]); assumption)); exact rfl; exact rfl; exact rfl)); (try simp only [put, rowsOf, plR, List.all_cons, selE, ovr, setH, del, cellsA, splice, isV, List.nil_append, List.cons_append, List.map_cons, List.map_nil, List.length_cons, List.length_nil, List.set_cons_zero, List.set_cons_succ, List.take_succ_cons, List.take_zero, List.take_nil, List.drop_succ_cons, List.drop_zero, List.drop_nil, List.append_nil, List.all_cons, List.all_nil, Bool.and_true, Bool.true_and, Bool.and_false, Bool.false_and, Nat.reduceAdd, Nat.zero_add, Nat.add_zero, Nat.reduceEqDiff, if_true, if_false, reduceIte]))
    | (show DE _ _ _ _ _ _ _ _ _ _ _ _; first | (apply e_move; exact rfl; exact rfl; exact rfl) | (apply e_pick_f; exact rfl; exact rfl; exact rfl; exact (by first | assumption | exact rfl); exact rfl) | (apply e_fieldAddr; exact rfl; exact rfl; exact (ty rfl); exact rfl; exact rfl; exact rfl; exact rfl; exact rfl) | (apply e_nilc; exact rfl; exact rfl; exact rfl; exact rfl) | (apply e_lss; exact rfl; exact rfl; exact rfl; exact rfl) | (apply e_gtr; exact rfl; exact rfl; exact rfl; exact rfl) | (apply e_ld1p; exact rfl; exact rfl; exact (ty rfl); exact rfl; exact rfl; exact (by first | rfl | assumption | ((try simp only [Nat.zero_add]); refine List.getElem?_set_self ?_; (try simp only [List.length_set]); assumption)); exact rfl; exact rfl) | (apply e_g; exact rfl; exact rfl; exact rfl; exact (by assumption)))
    | (show DE _ _ _ _ _ _ _ _ _ _ _ _; (first | (apply dr_nil; exact trivial) | (apply e_ldap; exact rfl; exact rfl; exact (ty rfl); exact rfl; exact rfl; exact (by first | rfl | assumption | ((try simp only [Nat.zero_add]); refine List.getElem?_set_self ?_; (try simp only [List.length_set]); assumption)); exact rfl; exact rfl) | (apply e_callU; exact rfl; exact rfl; exact rfl; rotate_left; exact hC _; exact rfl; rotate_right; focus ((repeat' (first | exact FzL.nil | exact (by assumption : FzC _) _ | refine FzL.cons ?_ ?_ | exact Fz.of rfl | exact Fz.nil | exact Fz.emp | (apply Fz.fnC; assumption) | (apply Fz.sl2; exact rfl; exact (by first | omega | (simp; done) | (simp; omega)); first | exact rfl | exact dt_full (by first | omega | (simp; done) | (simp; omega)) | assumption) | apply Fz.agg | (apply Fz.ptrL; exact rfl; first | exact rfl | assumption) | apply Fz.fnL)); done))); (try simp only [put, rowsOf, plR, List.all_cons, selE, ovr, setH, del, cellsA, splice, isV, List.nil_append, List.cons_append, List.map_cons, List.map_nil, List.length_cons, List.length_nil, List.set_cons_zero, List.set_cons_succ, List.take_succ_cons, List.take_zero, List.take_nil, List.drop_succ_cons, List.drop_zero, List.drop_nil, List.append_nil, List.all_cons, List.all_nil, Bool.and_true, Bool.true_and, Bool.and_false, Bool.false_and, Nat.reduceAdd, Nat.zero_add, Nat.add_zero, Nat.reduceEqDiff, if_true, if_false, reduceIte]))
    | (show AW _ _ _ _ _ _ _ _; first | refine aw_region ?_ | (refine aw_seqk ?_; intro K hK) | (apply aw_cond_t; exact rfl; exact (by assumption)) | (apply aw_cond_f; exact rfl; exact (by assumption)) | refine aw_ret ?_ | refine aw_skip ?_ | refine aw_drawE (id := 1) [0, 1, 3, 7, 15, 31, 63, 127, 255, 511, 63, 1087, 3135, 7231, 63, 63, 65535, 131071, 262143] [0, 0, 0, 1, 0, 0, 0, 0, 0, 1, 0, 0, 0, 1, 0, 0, 1, 0, 0] mixed (by kernel_rfl) ?_)
    | refine thn_n ?_
    | (refine hK _ _ _ ?_; clear hK K)
    | refine thn_r ?_)); all_goals (repeat (clear hK K)))
        all_goals exact finc (mv 2 1) (.r1 _ _ (.tmp _ _ rfl)) rfl (fun z hz => by simp at hz; simp [mv]; omega) ⟨(by rw [hwb]; rfl), rfl, trivial⟩ rfl
      · have d3 : decide (IntKind.i64.wrap (b2 - 1) < 0) = false := by rw [hwb]; simpa using c3
        rw [if_neg c3] at hQQ
        have hb2 : (bf.take item ++ [ch]).map inL = (bf.map inL).take item ++ [[.v (.int .i64 ch)]] := by rw [List.map_append, List.map_take]; rfl
        have hvv : ∀ x ∈ bf.take item ++ [ch], 0 ≤ x ∧ x ≤ 999 := fun x hx => by
          rcases List.mem_append.1 hx with h | h
          · exact hv x h
          · rw [List.mem_singleton] at h; subst h; exact hch
        have hii := hext left (IntKind.i64.wrap (b2 - 1), bf.take item ++ [ch]) l0 l1 (by rw [hwb]; dsimp only; omega) (by rw [hwb]; dsimp only; omega) (by simp [htl]) hvv 0 3 (by decide)
        have hkk := hk left (IntKind.i64.wrap (b2 - 1), bf.take item ++ [ch]) (by rw [hwb]; dsimp only; omega) (by simp [htl])
        dsimp only at hii
        rw [hb2] at hii
        rw [← hwb] at hQQ
        rw [hQQ] at hii hkk
        obtain ⟨qo, qb, qf⟩ := Q
        have kl := hkk.le
        dsimp only at hii kl
        have hqm : (qf.map inL).length = qf.length := List.length_map _
        unfold rsR at hii
        cases qo with
        | true =>
          rw [if_pos rfl] at hii
          ((repeat' (first
    | (show SQ _ _ _ _ _ _ _ _; first | apply sq_nil | (apply q_move; exact rfl; exact rfl) | (apply q_assign; exact rfl; exact rfl) | (apply q_fieldAddr; exact rfl; exact rfl; exact (ty rfl); exact rfl; exact rfl; exact rfl; exact rfl) | (apply q_nilc; exact rfl; exact rfl; exact rfl) | (apply q_sub; exact rfl; exact rfl; exact rfl) | (apply q_lss; exact rfl; exact rfl; exact rfl) | (apply q_ld1p; exact rfl; exact rfl; exact (ty rfl); exact rfl; exact rfl; exact (by first | rfl | assumption | ((try simp only [Nat.zero_add]); refine List.getElem?_set_self ?_; (try simp only [List.length_set]); assumption)); exact rfl))
    | (show SQ _ _ _ _ _ _ _ _; (first | (apply q_store; exact rfl; exact rfl; exact (ty rfl); exact rfl; exact (by first | rfl | assumption | ((try simp only [Nat.zero_add]); refine List.getElem?_set_self ?_; (try simp only [List.length_set]); assumption)); exact rfl; exact rfl; exact rfl) | (apply q_buildn; exact rfl; exact (ty rfl); exact rfl; exact rfl; exact rfl; exact rfl; exact rfl; exact rfl; exact rfl) | (apply q_apo_s; exact rfl; exact rfl; exact rfl; exact (ty rfl); exact rfl; exact rfl; exact (by first | omega | (simp; done) | (simp; omega)); exact (by first | exact List.take_of_length_le (by first | omega | (simp; done) | (simp; omega)) | rfl); exact (ty rfl); exact rfl; exact rfl; exact (by first | omega | (simp; done) | (simp; omega)); exact (by first | exact dt_full (by first | omega | (simp; done) | (simp; omega)) | assumption | rfl); exact rfl; exact (by first | omega | (simp; done) | (simp; omega)); exact (by first | omega | (simp; done) | (simp; omega)); exact (by first | assumption | exact rfl)) | (apply q_callC; exact rfl; exact rfl; exact rfl; exact hii _; (focus ((repeat (first | exact trivial | refine ⟨by first | exact rfl | assumption, ?_⟩)); done)); skip)); (try simp only [put, rowsOf, plR, List.all_cons, selE, ovr, setH, del, cellsA, splice, isV, List.nil_append, List.cons_append, List.map_cons, List.map_nil, List.length_cons, List.length_nil, List.set_cons_zero, List.set_cons_succ, List.take_succ_cons, List.take_zero, List.take_nil, List.drop_succ_cons, List.drop_zero, List.drop_nil, List.append_nil, List.all_cons, List.all_nil, Bool.and_true, Bool.true_and, Bool.and_false, Bool.false_and, Nat.reduceAdd, Nat.zero_add, Nat.add_zero, Nat.reduceEqDiff, if_true, if_false, reduceIte]))
    | (show DE _ _ _ _ _ _ _ _ _ _ _ _; first | (apply e_move; exact rfl; exact rfl; exact rfl) | (apply e_pick_f; exact rfl; exact rfl; exact rfl; exact (by first | assumption | exact rfl); exact rfl) | (apply e_fieldAddr; exact rfl; exact rfl; exact (ty rfl); exact rfl; exact rfl; exact rfl; exact rfl; exact rfl) | (apply e_nilc; exact rfl; exact rfl; exact rfl; exact rfl) | (apply e_lss; exact rfl; exact rfl; exact rfl; exact rfl) | (apply e_gtr; exact rfl; exact rfl; exact rfl; exact rfl) | (apply e_ld1p; exact rfl; exact rfl; exact (ty rfl); exact rfl; exact rfl; exact (by first | rfl | assumption | ((try simp only [Nat.zero_add]); refine List.getElem?_set_self ?_; (try simp only [List.length_set]); assumption)); exact rfl; exact rfl) | (apply e_g; exact rfl; exact rfl; exact rfl; exact (by assumption)))
    | (show DE _ _ _ _ _ _ _ _ _ _ _ _; (first | (apply dr_nil; exact trivial) | (apply e_ldap; exact rfl; exact rfl; exact (ty rfl); exact rfl; exact rfl; exact (by first | rfl | assumption | ((try simp only [Nat.zero_add]); refine List.getElem?_set_self ?_; (try simp only [List.length_set]); assumption)); exact rfl; exact rfl) | (apply e_callU; exact rfl; exact rfl; exact rfl; rotate_left; exact hC _; exact rfl; rotate_right; focus ((repeat' (first | exact FzL.nil | exact (by assumption : FzC _) _ | refine FzL.cons ?_ ?_ | exact Fz.of rfl | exact Fz.nil | exact Fz.emp | (apply Fz.fnC; assumption) | (apply Fz.sl2; exact rfl; exact (by first | omega | (simp; done) | (simp; omega)); first | exact rfl | exact dt_full (by first | omega | (simp; done) | (simp; omega)) | assumption) | apply Fz.agg | (apply Fz.ptrL; exact rfl; first | exact rfl | assumption) | apply Fz.fnL)); done))); (try simp only [put, rowsOf, plR, List.all_cons, selE, ovr, setH, del, cellsA, splice, isV, List.nil_append, List.cons_append, List.map_cons, List.map_nil, List.length_cons, List.length_nil, List.set_cons_zero, List.set_cons_succ, List.take_succ_cons, List.take_zero, List.take_nil, List.drop_succ_cons, List.drop_zero, List.drop_nil, List.append_nil, List.all_cons, List.all_nil, Bool.and_true, Bool.true_and, Bool.and_false, Bool.false_and, Nat.reduceAdd, Nat.zero_add, Nat.add_zero, Nat.reduceEqDiff, if_true, if_false, reduceIte]))
    | (show AW _ _ _ _ _ _ _ _; first | refine aw_region ?_ | (refine aw_seqk ?_; intro K hK) | (apply aw_cond_t; exact rfl; exact rfl) | (apply aw_cond_f; exact rfl; exact (by assumption)) | refine aw_ret ?_ | refine aw_skip ?_ | refine aw_drawE (id := 1) [0, 1, 3, 7, 15, 31, 63, 127, 255, 511, 63, 1087, 3135, 7231, 63, 63, 65535, 131071, 262143] [0, 0, 0, 1, 0, 0, 0, 0, 0, 1, 0, 0, 0, 1, 0, 0, 1, 0, 0] mixed (by kernel_rfl) ?_)
    | refine thn_n ?_
    | (refine hK _ _ _ ?_; clear hK K)
    | refine thn_r ?_)); all_goals (repeat (clear hK K)))
          all_goals exact finc (mv 2 4) (.r1 _ _ (.tmp _ _ rfl)) rfl (fun z hz => by simp at hz; simp [mv]; omega) ⟨rfl, rfl, trivial⟩ rfl
        | false =>
          rw [if_neg (by simp)] at hii
          ((repeat' (first
    | (show SQ _ _ _ _ _ _ _ _; first | apply sq_nil | (apply q_move; exact rfl; exact rfl) | (apply q_assign; exact rfl; exact rfl) | (apply q_fieldAddr; exact rfl; exact rfl; exact (ty rfl); exact rfl; exact rfl; exact rfl; exact rfl) | (apply q_nilc; exact rfl; exact rfl; exact rfl) | (apply q_sub; exact rfl; exact rfl; exact rfl) | (apply q_lss; exact rfl; exact rfl; exact rfl) | (apply q_ld1p; exact rfl; exact rfl; exact (ty rfl); exact rfl; exact rfl; exact (by first | rfl | assumption | ((try simp only [Nat.zero_add]); refine List.getElem?_set_self ?_; (try simp only [List.length_set]); assumption)); exact rfl) | (apply q_ssl_h; exact rfl; exact rfl; exact rfl; exact (ty rfl); exact rfl; exact rfl; exact (by first | omega | (simp; done) | (simp; omega)); exact (by first | omega | (simp; done) | (simp; omega)); exact (by first | omega | (simp; done) | (simp; omega))))
    | (show SQ _ _ _ _ _ _ _ _; (first | (apply q_store; exact rfl; exact rfl; exact (ty rfl); exact rfl; exact (by first | rfl | assumption | ((try simp only [Nat.zero_add]); refine List.getElem?_set_self ?_; (try simp only [List.length_set]); assumption)); exact rfl; exact rfl; exact rfl) | (apply q_buildn; exact rfl; exact (ty rfl); exact rfl; exact rfl; exact rfl; exact rfl; exact rfl; exact rfl; exact rfl) | (apply q_apo_s; exact rfl; exact rfl; exact rfl; exact (ty rfl); exact rfl; exact rfl; exact (by first | omega | (simp; done) | (simp; omega)); exact (by first | exact List.take_of_length_le (by first | omega | (simp; done) | (simp; omega)) | rfl); exact (ty rfl); exact rfl; exact rfl; exact (by first | omega | (simp; done) | (simp; omega)); exact (by first | exact dt_full (by first | omega | (simp; done) | (simp; omega)) | assumption | rfl); exact rfl; exact (by first | omega | (simp; done) | (simp; omega)); exact (by first | omega | (simp; done) | (simp; omega)); exact (by first | assumption | exact rfl)) | (apply q_callC; exact rfl; exact rfl; exact rfl; exact hii _; (focus ((repeat (first | exact trivial | refine ⟨by first | exact rfl | assumption, ?_⟩)); done)); skip)); (try simp only [put, rowsOf, plR, List.all_cons, selE, ovr, setH, del, cellsA, splice, isV, List.nil_append, List.cons_append, List.map_cons, List.map_nil, List.length_cons, List.length_nil, List.set_cons_zero, List.set_cons_succ, List.take_succ_cons, List.take_zero, List.take_nil, List.drop_succ_cons, List.drop_zero, List.drop_nil, List.append_nil, List.all_cons, List.all_nil, Bool.and_true, Bool.true_and, Bool.and_false, Bool.false_and, Nat.reduceAdd, Nat.zero_add, Nat.add_zero, Nat.reduceEqDiff, if_true, if_false, reduceIte]))
    | (show DE _ _ _ _ _ _ _ _ _ _ _ _; first | (apply e_move; exact rfl; exact rfl; exact rfl) | (apply e_pick_f; exact rfl; exact rfl; exact rfl; exact (by first | assumption | exact rfl); exact rfl) | (apply e_fieldAddr; exact rfl; exact rfl; exact (ty rfl); exact rfl; exact rfl; exact rfl; exact rfl; exact rfl) | (apply e_nilc; exact rfl; exact rfl; exact rfl; exact rfl) | (apply e_lss; exact rfl; exact rfl; exact rfl; exact rfl) | (apply e_gtr; exact rfl; exact rfl; exact rfl; exact rfl) | (apply e_ld1p; exact rfl; exact rfl; exact (ty rfl); exact rfl; exact rfl; exact (by first | rfl | assumption | ((try simp only [Nat.zero_add]); refine List.getElem?_set_self ?_; (try simp only [List.length_set]); assumption)); exact rfl; exact rfl) | (apply e_g; exact rfl; exact rfl; exact rfl; exact (by assumption)))
    | (show DE _ _ _ _ _ _ _ _ _ _ _ _; (first | (apply dr_nil; exact trivial) | (apply e_ldap; exact rfl; exact rfl; exact (ty rfl); exact rfl; exact rfl; exact (by first | rfl | assumption | ((try simp only [Nat.zero_add]); refine List.getElem?_set_self ?_; (try simp only [List.length_set]); assumption)); exact rfl; exact rfl) | (apply e_callU; exact rfl; exact rfl; exact rfl; rotate_left; exact hC _; exact rfl; rotate_right; focus ((repeat' (first | exact FzL.nil | exact (by assumption : FzC _) _ | refine FzL.cons ?_ ?_ | exact Fz.of rfl | exact Fz.nil | exact Fz.emp | (apply Fz.fnC; assumption) | (apply Fz.sl2; exact rfl; exact (by first | omega | (simp; done) | (simp; omega)); first | exact rfl | exact dt_full (by first | omega | (simp; done) | (simp; omega)) | assumption) | apply Fz.agg | (apply Fz.ptrL; exact rfl; first | exact rfl | assumption) | apply Fz.fnL)); done))); (try simp only [put, rowsOf, plR, List.all_cons, selE, ovr, setH, del, cellsA, splice, isV, List.nil_append, List.cons_append, List.map_cons, List.map_nil, List.length_cons, List.length_nil, List.set_cons_zero, List.set_cons_succ, List.take_succ_cons, List.take_zero, List.take_nil, List.drop_succ_cons, List.drop_zero, List.drop_nil, List.append_nil, List.all_cons, List.all_nil, Bool.and_true, Bool.true_and, Bool.and_false, Bool.false_and, Nat.reduceAdd, Nat.zero_add, Nat.add_zero, Nat.reduceEqDiff, if_true, if_false, reduceIte]))
    | (show AW _ _ _ _ _ _ _ _; first | refine aw_region ?_ | (refine aw_seqk ?_; intro K hK) | (apply aw_cond_f; exact rfl; exact rfl) | (apply aw_cond_f; exact rfl; exact (by assumption)) | refine aw_ret ?_ | refine aw_skip ?_ | refine aw_drawE (id := 1) [0, 1, 3, 7, 15, 31, 63, 127, 255, 511, 63, 1087, 3135, 7231, 63, 63, 65535, 131071, 262143] [0, 0, 0, 1, 0, 0, 0, 0, 0, 1, 0, 0, 0, 1, 0, 0, 1, 0, 0] mixed (by kernel_rfl) ?_)
    | refine thn_n ?_
    | (refine hK _ _ _ ?_; clear hK K))); all_goals (repeat (clear hK K)))
          all_goals (try simp only [Int.toNat_natCast])
          all_goals exact finc (mv 2 4) (.r1 _ _ (.tmp _ _ rfl)) rfl (fun z hz => by simp at hz; simp [mv]; omega) ⟨rfl, rfl, trivial⟩ rfl
end Go.Proofs.Yteknfaldpajlpaa.Nb
