/-
  What the law FnTrees rests on, part 3.
-/
import Derived.Test.YtglfcaioapdiaaaZFnTrees2
namespace Go.Proofs.Ytglfcaioapdiaaa.Fg
open Go.ChangeShapes Go.WideShapes Go.ChangeAt Go.RowKit Go.Deep
open Go.ChangeMaps (open_string shut_string)
set_option linter.unusedSimpArgs false
def SlV {α : Type} (cV : α → List Value) (sz : Nat) (w : World) (v : Value) (xs : List α) : Prop :=
  Aw.VR (fun k => k < w.heap.size) w (fun _ => ⟨0, 0, 0, false⟩) Aw.NoS (.dsl sz (xs.map fun a => (cV a).map .v)) v ∧ xs.length ≤ 9223372036854775807
section
variable {P : Program} {H : Type} {enc : TypeId × Value → H} {W : World} {r : Reach} {b0 base : Nat} {spare : Nat → Bool} {held : Bool} {v : Value} {d : DataW H} {p : List MemPlace}
theorem sl_open {t e : TypeId} {sz : Nat} {α : Type} [Inhabited α] {cV : α → List Value} {Q : α → Prop} {fuel : Nat} {x : DataW H × List MemPlace} (hU : P.underlying t = some (.slice e)) (hcells : P.cellsOf e = sz) (hsz : 0 < sz) (hlen : ∀ a, (cV a).length = sz)
    (hone : ∀ a, ∀ y ∈ cV a, y.oneCell' = true) (hel : ∀ fuel cs x, DataW.trod enc P W base spare held fuel e cs = some x → ∃ a, cs = cV a ∧ Q a) (h : DataW.trod enc P W base spare held fuel t [v] = some x) :
    ∃ xs : List α, SlV cV sz W v xs ∧ ∀ a ∈ xs, Q a := by
  rcases open_slice hU h with ⟨hc, _⟩ | ⟨a, len, cap, m, n, D, Pl, hc, hb, hl, hm, hmm, _, hels⟩
  · simp only [List.cons.injEq, and_true] at hc
    subst hc
    exact ⟨[], ⟨.dsl0 _ _ _ _, by simp⟩, by simp⟩
  · simp only [List.cons.injEq, and_true] at hc
    subst hc
    have hlm : len ≤ m := by rw [hmm]; split <;> omega
    obtain ⟨f, hf2⟩ := choose_lt (n := len) (p := fun i (l : α) => W.cells? base (a.add (i * sz)) sz = some (cV l) ∧ Q l) fun i hi => by
      obtain ⟨cs', h1, h2⟩ := hels i (by omega)
      rw [hcells] at h1
      obtain ⟨l, rfl, hs⟩ := hel _ _ _ h2
      exact ⟨l, h1, hs⟩
    refine ⟨(List.range len).map f, ⟨?_, by simp only [maxLen] at hm; simp; omega⟩, fun l hl => ?_⟩
    · obtain ⟨b, off, spot⟩ := a
      cases len with
      | zero => exact .dsl0 _ _ _ _
      | succ len =>
        have hc0 : ∀ r, r < len + 1 → ∀ j, j < sz → W.cell? ((⟨b, off, spot⟩ : Addr).add (r * sz + j)) = (cV (f r))[j]? := fun r hr j hj => by
          obtain ⟨_, _, hc⟩ := World.cells?_some (hf2 r hr).1
          rw [← add_add]
          exact hc j hj
        obtain ⟨y0, hy0⟩ : ∃ y0, (cV (f 0))[0]? = some y0 := ⟨_, List.getElem?_eq_getElem (by rw [hlen]; exact hsz)⟩
        have h2 : W.cell? ((⟨b, off, spot⟩ : Addr).add 0) = some y0 := by
          have := hc0 0 (by omega) 0 hsz
          simp only [Nat.zero_mul, Nat.add_zero] at this
          rw [this, hy0]
        have hspot : spot = none := by simpa [Addr.add] using World.cell?_spot h2
        subst hspot
        have hlt : b < W.heap.size := block_lt_of_cell h2
        have get : ∀ (l : α) (j : Nat) (cv : Aw.AV), ((cV l).map Aw.AV.v)[j]? = some cv → ∃ y, (cV l)[j]? = some y ∧ cv = .v y ∧ y.oneCell' = true := fun l j cv h => by
          rw [List.getElem?_map] at h
          cases hj : (cV l)[j]? with
          | none => simp [hj] at h
          | some y =>
            simp only [hj, Option.map_some, Option.some.injEq] at h
            exact ⟨y, rfl, h.symm, hone l y (List.mem_of_getElem? hj)⟩
        refine .dsl _ sz _ _ b off cap (fun r j => ((cV (f r))[j]?).getD undef) (by simp) (by simpa using hl) hlt (fun r row hr => ?_) (fun r row j cv hr hj => ?_) (fun r row j cv hr hj => ?_)
        all_goals
          rw [List.getElem?_map, List.getElem?_map] at hr
          have hrl : r < len + 1 := by
            rcases Nat.lt_or_ge r (len + 1) with h | h
            · exact h
            · rw [List.getElem?_eq_none (by simpa using h)] at hr; simp at hr
          rw [List.getElem?_range hrl] at hr
          simp only [Option.map_some, Option.some.injEq] at hr
          subst hr
        · simp [hlen]
        · obtain ⟨y, hy, rfl, hone⟩ := get _ _ _ hj
          have hjl : j < sz := by rw [← hlen (f r)]; exact (List.getElem?_eq_some_iff.1 hy).1
          have := hc0 r hrl j hjl
          rw [Go.WideShapes.add_plain] at this
          simp only [hy, Option.getD_some]
          refine ⟨?_, hone⟩
          rw [Nat.add_assoc, this, hy]
        · obtain ⟨y, hy, rfl, hone⟩ := get _ _ _ hj
          simp only [hy, Option.getD_some]
          exact .v _ _
    · obtain ⟨i, hi, rfl⟩ := List.mem_map.1 hl
      exact (hf2 i (by simpa using hi)).2
theorem sl_cell {t e : TypeId} (hU : P.underlying t = some (.slice e)) (hv : Value.okWide P W r b0 t v) : v.cells.toList = [v] := by
  have hsl : ∃ a n c, v = .slice a n c := by
    simp only [Value.okWide, hU, Cell.okWide] at hv
    cases v <;> simp_all [Cell.ok]
  obtain ⟨a, n, c, rfl⟩ := hsl
  rfl
end
end Go.Proofs.Ytglfcaioapdiaaa.Fg
namespace Go.Proofs.Ytglfcaioapdiaaa.Fr
open Go.ChangeShapes Go.WideShapes Go.ChangeAt Go.RowKit Go.Deep
open Go.Proofs.Ytglfcaioapdiaaa.Sr Go.Proofs.Ytglfcaioapdiaaa.Fg
def byC (x : Int) : List Value := [.int .u8 x]
def IsBytes (w : World) (v : Value) : Prop := ∃ bs : List Int, Aw.VR (fun k => k < w.heap.size) w (fun _ => ⟨0, 0, 0, false⟩) Aw.NoS (.dsl 1 (byL bs)) v ∧ (∀ b ∈ bs, 0 ≤ b ∧ b ≤ 255) ∧ bs.length ≤ 9223372036854775807
section
variable {H : Type} {enc : TypeId × Value → H} {W : World} {r : Reach} {b0 base : Nat} {spare : Nat → Bool} {held : Bool} {v : Value} {d : DataW H} {p : List MemPlace}
theorem cellsByte : Try.prog.cellsOf 5 = 1 := by kernel_rfl
theorem byte_cells {fuel : Nat} {cs : List Value} {x : DataW H × List MemPlace} (h : DataW.trod enc Try.prog W base spare held fuel 5 cs = some x) : ∃ n : Int, cs = byC n ∧ (0 ≤ n ∧ n ≤ 255) := by
  obtain ⟨n, e, _, w⟩ := DataW.trod_int Try.underlying5 h
  have := bounds_u8 w
  exact ⟨n, e, by omega⟩
set_option maxRecDepth 100000 in
theorem isBytes_of (hv : Value.okWide Try.prog W r b0 47 v) (h : DataW.Trod enc Try.prog W base spare held 47 v d p) : IsBytes W v := by
  obtain ⟨fuel, hf⟩ := h
  rw [sl_cell Try.underlying47 hv] at hf
  obtain ⟨xs, h1, h2⟩ := sl_open (Q := fun n => 0 ≤ n ∧ n ≤ 255) Try.underlying47 cellsByte (by omega) (fun _ => rfl) (fun a y hy => by simp [byC] at hy; subst hy; rfl) (fun _ _ _ h => byte_cells h) hf
  exact ⟨xs, h1.1, h2, h1.2⟩
end
end Go.Proofs.Ytglfcaioapdiaaa.Fr

namespace Go.Proofs.Ytglfcaioapdiaaa.So
open Go.Shelf Go.Sort Go.RowKit Go.Proofs
def laysSort_ren : Go.Shelf.Ren := ⟨fun | 53 => 71 | 64 => 108 | 63 => 107 | 78 => 128 | 79 => 129 | 70 => 119 | 71 => 120 | 72 => 121 | 73 => 122 | 74 => 123 | 75 => 124 | 59 => 125 | 76 => 126 | 77 => 127 | 88 => 133 | 89 => 134 | 90 => 135 | 91 => 136 | 92 => 137 | 68 => 112 | 96 => 139 | n => n, fun | 22 => 26 | 23 => 2 | 3 => 3 | 51 => 127 | 0 => 0 | 67 => 151 | 69 => 131 | 4 => 4 | 61 => 143 | 60 => 142 | 44 => 148 | 5 => 5 | 9 => 9 | 75 => 156 | 79 => 160 | 83 => 162 | 84 => 163 | n => n, fun | n => n⟩
theorem laysSort : Go.Proofs.SlLaysN.n53 Try.prog laysSort_ren := {
  mixed := by kernel_rfl
  f53 := ⟨Try.f71.name, by decide, Try.func71.trans (congrArg some (by kernel_rfl))⟩
  f59 := ⟨Try.f125.name, by decide, Try.func125.trans (congrArg some (by kernel_rfl))⟩
  f63 := ⟨Try.f107.name, by decide, Try.func107.trans (congrArg some (by kernel_rfl))⟩
  f64 := Try.func108.trans (congrArg some (by kernel_rfl))
  f68 := ⟨Try.f112.name, by decide, Try.func112.trans (congrArg some (by kernel_rfl))⟩
  f70 := ⟨Try.f119.name, by decide, Try.func119.trans (congrArg some (by kernel_rfl))⟩
  f71 := ⟨Try.f120.name, by decide, Try.func120.trans (congrArg some (by kernel_rfl))⟩
  f72 := ⟨Try.f121.name, by decide, Try.func121.trans (congrArg some (by kernel_rfl))⟩
  f73 := ⟨Try.f122.name, by decide, Try.func122.trans (congrArg some (by kernel_rfl))⟩
  f74 := ⟨Try.f123.name, by decide, Try.func123.trans (congrArg some (by kernel_rfl))⟩
  f75 := ⟨Try.f124.name, by decide, Try.func124.trans (congrArg some (by kernel_rfl))⟩
  f76 := ⟨Try.f126.name, by decide, Try.func126.trans (congrArg some (by kernel_rfl))⟩
  f77 := ⟨Try.f127.name, by decide, Try.func127.trans (congrArg some (by kernel_rfl))⟩
  f78 := Try.func128.trans (congrArg some (by kernel_rfl))
  f79 := Try.func129.trans (congrArg some (by kernel_rfl))
  f88 := ⟨Try.f133.name, by decide, Try.func133.trans (congrArg some (by kernel_rfl))⟩
  f89 := Try.func134.trans (congrArg some (by kernel_rfl))
  f90 := Try.func135.trans (congrArg some (by kernel_rfl))
  f91 := ⟨Try.f136.name, by decide, Try.func136.trans (congrArg some (by kernel_rfl))⟩
  f92 := ⟨Try.f137.name, by decide, Try.func137.trans (congrArg some (by kernel_rfl))⟩
  f96 := ⟨Try.f139.name, by decide, Try.func139.trans (congrArg some (by kernel_rfl))⟩
  t0 := Try.underlying0
  a0 := Try.isAgg0
  z0 := Try.sizeOf0
  v0 := Try.zeroValue0
  t3 := Try.underlying3
  a3 := Try.isAgg3
  z3 := Try.sizeOf3
  v3 := Try.zeroValue3
  t4 := Try.underlying4
  a4 := Try.isAgg4
  z4 := Try.sizeOf4
  v4 := Try.zeroValue4
  t5 := Try.underlying5
  a5 := Try.isAgg5
  z5 := Try.sizeOf5
  v5 := Try.zeroValue5
  t9 := Try.underlying9
  a9 := Try.isAgg9
  z9 := Try.sizeOf9
  v9 := Try.zeroValue9
  t22 := Try.underlying26
  a22 := Try.isAgg26
  z22 := Try.sizeOf26
  v22 := Try.zeroValue26
  t23 := Try.underlying2
  a23 := Try.isAgg2
  z23 := Try.sizeOf2
  v23 := Try.zeroValue2
  t44 := Try.underlying148
  a44 := Try.isAgg148
  z44 := Try.sizeOf148
  v44 := Try.zeroValue148
  t51 := Try.underlying127
  a51 := Try.isAgg127
  z51 := Try.sizeOf127
  v51 := Try.zeroValue127
  t60 := Try.underlying142
  a60 := Try.isAgg142
  z60 := Try.sizeOf142
  v60 := Try.zeroValue142
  t61 := Try.underlying143
  a61 := Try.isAgg143
  z61 := Try.sizeOf143
  v61 := Try.zeroValue143
  t67 := Try.underlying151
  a67 := Try.isAgg151
  z67 := Try.sizeOf151
  v67 := Try.zeroValue151
  t69 := Try.underlying131
  a69 := Try.isAgg131
  z69 := Try.sizeOf131
  v69 := Try.zeroValue131
  t75 := Try.underlying156
  a75 := Try.isAgg156
  z75 := Try.sizeOf156
  v75 := Try.zeroValue156
  t79 := Try.underlying160
  a79 := Try.isAgg160
  z79 := Try.sizeOf160
  v79 := Try.zeroValue160
  t83 := Try.underlying162
  a83 := Try.isAgg162
  z83 := Try.sizeOf162
  v83 := Try.zeroValue162
  t84 := Try.underlying163
  a84 := Try.isAgg163
  z84 := Try.sizeOf163
  v84 := Try.zeroValue163 }
theorem slices_Sort_int (blk off cap : Nat) (zs : List Int) (w : World) (hH : Holds (Value.int .i64) w blk off zs.toArray) (hblk : blk < w.heap.size) (hsz : zs.length < 4611686018427387904) :
    Calls Try.prog 71 #[.slice (some ⟨blk, off, none⟩) zs.length cap] w fun e w' =>
      e = .returned (.tuple #[]) ∧ ∃ n os, w' = grow (putRow (Value.int .i64) (Sort.ahead w n) blk off (zs.mergeSort fun x y => decide (x ≤ y)).toArray) os := AnyG.slices_Sort_int laysSort blk off cap zs w hH hblk hsz
theorem slices_Sort_int_none (p : Option Addr) (cap : Nat) (w : World) :
    Calls Try.prog 71 #[.slice p 0 cap] w fun e w' => e = .returned (.tuple #[]) ∧ w' = w := AnyG.slices_Sort_int_none laysSort p cap w
end Go.Proofs.Ytglfcaioapdiaaa.So

namespace Go.Proofs.Ytglfcaioapdiaaa.Bk
open Go Go.RowKit Go.Proofs.Ytglfcaioapdiaaa.Aw
set_option linter.unusedSimpArgs false
set_option linter.unusedVariables false
attribute [local irreducible] AW SQ Step RO RC DE Thn InB
structure Ln where
  a : Int
  b : Int
  o : Int
  c : Int
def lnL (l : Ln) : List AV := [.v (.int .i64 l.a), .v (.int .i64 l.b), .v (.int .i64 l.o), .v (.int .i64 l.c)]
theorem lnL_eq (l : Ln) : lnL l = [.v (.int .i64 l.a), .v (.int .i64 l.b), .v (.int .i64 l.o), .v (.int .i64 l.c)] := rfl
def lnz : Ln := ⟨0, 0, 0, 0⟩
def inB (n lo hi : Int) : Bool := decide (lo ≤ n) && decide (n ≤ hi)
def bkL (n : Int) (ls : List Ln) : List AV := [.v (.int .i64 n), .dsl 4 (ls.map lnL)]
def i64c (x y : Int) : Int := if x < y then -1 else if y < x then 1 else 0
set_option maxHeartbeats 4000000 in
theorem within_ro (n lo hi : Int) (k : Nat) : RO Try.prog 103 [.v (.int .i64 n), .v (.int .i64 lo), .v (.int .i64 hi)] k (.v (.bool (inB n lo hi))) [] k := by
  refine RO.ofv' Try.func103 Try.ntmps103 rfl (goFn_of Try.func103 rfl (by kernel_rfl)) rfl rfl ?_
  ((repeat' (first
    | (show SQ _ _ _ _ _ _ _ _; first | apply sq_nil | (apply q_move; exact rfl; exact rfl) | (apply q_assign; exact rfl; exact rfl) | (apply q_pick_t; (iterate 3 exact rfl); exact (by first | assumption | exact rfl)) | (apply q_pick_f; (iterate 3 exact rfl); exact (by first | assumption | exact rfl)) | (apply q_leq; iterate 3 exact rfl) | (apply q_geq; iterate 3 exact rfl) | (apply q_g; (iterate 3 exact rfl); exact (by assumption)) | (apply q_s; (iterate 3 exact rfl); exact (by assumption); exact rfl))
    | (show SQ _ _ _ _ _ _ _ _; apply q_gs; (iterate 4 exact rfl); all_goals intro h)
    | (show AW _ _ _ _ _ _ _ _; first | refine aw_region ?_ | (refine aw_seqk ?_; intro K hK) | refine aw_ret ?_)
    | refine thn_n ?_
    | (refine hK _ _ _ ?_; clear hK K))); all_goals (repeat (clear hK K)))
  all_goals refine fin_r (fin_b rfl ?_)
  all_goals simp_all [inB]
  all_goals (intros; omega)
set_option maxHeartbeats 4000000 in
theorem l00In_ro (n lo hi : Int) (k : Nat) : RO Try.prog 61 [.v (.int .i64 n), .v (.int .i64 lo), .v (.int .i64 hi)] k (.v (.bool (inB n lo hi))) [] k := by
  refine RO.ofv' Try.func61 Try.ntmps61 rfl (goFn_of Try.func61 rfl (by kernel_rfl)) rfl rfl ?_
  ((repeat' (first
    | (show SQ _ _ _ _ _ _ _ _; first | apply sq_nil | (apply q_move; exact rfl; exact rfl) | (apply q_assign; exact rfl; exact rfl) | (apply q_pick_t; (iterate 3 exact rfl); exact (by first | assumption | exact rfl)) | (apply q_pick_f; (iterate 3 exact rfl); exact (by first | assumption | exact rfl)) | (apply q_leq; iterate 3 exact rfl) | (apply q_geq; iterate 3 exact rfl) | (apply q_g; (iterate 3 exact rfl); exact (by assumption)) | (apply q_s; (iterate 3 exact rfl); exact (by assumption); exact rfl))
    | (show SQ _ _ _ _ _ _ _ _; apply q_gs; (iterate 4 exact rfl); all_goals intro h)
    | (show AW _ _ _ _ _ _ _ _; first | refine aw_region ?_ | (refine aw_seqk ?_; intro K hK) | refine aw_ret ?_)
    | refine thn_n ?_
    | (refine hK _ _ _ ?_; clear hK K))); all_goals (repeat (clear hK K)))
  all_goals refine fin_r (fin_b rfl ?_)
  all_goals simp_all [inB]
  all_goals (intros; omega)
set_option maxHeartbeats 4000000 in
theorem l13Outage_ro (n : Int) (k : Nat) : RO Try.prog 99 [.v (.int .i64 n)] k (.v (.bool (inB n 0 1000000))) [] k := by
  refine RO.ofv' Try.func99 Try.ntmps99 rfl (goFn_of Try.func99 rfl (by kernel_rfl)) rfl rfl ?_
  ((repeat' (first
    | (show SQ _ _ _ _ _ _ _ _; first | apply sq_nil | (apply q_move; exact rfl; exact rfl) | (apply q_assign; exact rfl; exact rfl))
    | (show SQ _ _ _ _ _ _ _ _; (first | (apply q_callU; (iterate 3 exact rfl); exact FzL.of rfl; exact l00In_ro _ _ _ _)); (try simp only [put, rowsOf, plR, selE, ovr, setH, del, cellsA, splice, isV, spq, if_true, if_false]))
    | (show AW _ _ _ _ _ _ _ _; first | refine aw_region ?_ | (refine aw_seqk ?_; intro K hK) | refine aw_ret ?_)
    | refine thn_n ?_
    | (refine hK _ _ _ ?_; clear hK K))); all_goals (repeat (clear hK K)))
  all_goals exact fin_r (fin_b rfl rfl)
set_option maxHeartbeats 4000000 in
theorem isNaN_ro (n : Int) (k : Nat) : RO Try.prog 112 [.v (.int .i64 n)] k (.v (.bool false)) [] k := by
  refine RO.ofv' Try.func112 Try.ntmps112 rfl (goFn_of Try.func112 rfl (by kernel_rfl)) rfl rfl ?_
  ((repeat' (first
    | (show SQ _ _ _ _ _ _ _ _; first | apply sq_nil | (apply q_move; exact rfl; exact rfl) | (apply q_assign; exact rfl; exact rfl) | (apply q_neq; iterate 3 exact rfl))
    | (show AW _ _ _ _ _ _ _ _; first | refine aw_region ?_ | (refine aw_seqk ?_; intro K hK) | refine aw_ret ?_)
    | refine thn_n ?_
    | (refine hK _ _ _ ?_; clear hK K))); all_goals (repeat (clear hK K)))
  all_goals refine fin_r (fin_b rfl ?_)
  all_goals simp
set_option maxHeartbeats 4000000 in
theorem Compare_ro (x y : Int) (k : Nat) : RO Try.prog 78 [.v (.int .i64 x), .v (.int .i64 y)] k (.v (.int .i64 (i64c x y))) [] k := by
  refine RO.ofv' Try.func78 Try.ntmps78 rfl (goFn_of Try.func78 rfl (by kernel_rfl)) rfl rfl ?_
  ((repeat' (first
    | (show SQ _ _ _ _ _ _ _ _; first | apply sq_nil | (apply q_move; exact rfl; exact rfl) | (apply q_assign; exact rfl; exact rfl) | (apply q_lss; iterate 3 exact rfl) | (apply q_gtr; iterate 3 exact rfl))
    | (show SQ _ _ _ _ _ _ _ _; (first | (apply q_callU; (iterate 3 exact rfl); exact FzL.of rfl; exact isNaN_ro _ _)); (try simp only [put, rowsOf, plR, selE, ovr, setH, del, cellsA, splice, isV, spq, if_true, if_false]))
    | (show AW _ _ _ _ _ _ _ _; first | refine aw_region ?_ | (refine aw_seqk ?_; intro K hK) | (apply aw_cond_f; exact rfl; exact rfl) | refine aw_ret ?_ | refine aw_skip ?_ | (apply aw_ite; exact rfl; all_goals intro h))
    | refine thn_n ?_
    | (refine hK _ _ _ ?_; clear hK K)
    | refine thn_r ?_)); all_goals (repeat (clear hK K)))
  all_goals refine fin_r (fin_i rfl ?_)
  all_goals simp_all [i64c]
  all_goals (intros; omega)
set_option maxHeartbeats 4000000 in
theorem Or_ro (x y : Int) (k : Nat) : RO Try.prog 110 [.dsl 1 [[.v (.int .i64 x)], [.v (.int .i64 y)]]] k (.v (.int .i64 (if x = 0 then y else x))) [] k := by
  refine RO.ofv' Try.func110 Try.ntmps110 rfl (goFn_of Try.func110 rfl (by kernel_rfl)) rfl rfl ?_
  ((repeat' (first
    | (show SQ _ _ _ _ _ _ _ _; first | apply sq_nil | (apply q_move; exact rfl; exact rfl) | (apply q_assign; exact rfl; exact rfl) | (apply q_lend; exact rfl; exact rfl; exact (ty rfl); exact rfl))
    | (show AW _ _ _ _ _ _ _ _; first | refine aw_region ?_ | (refine aw_seqk ?_; intro K hK) | refine aw_block ?_)
    | refine thn_n ?_
    | (refine hK _ _ _ ?_; clear hK K))); all_goals (repeat (clear hK K)))
  refine aw_loop (ρ := id) (ι := Nat) (fun i => ([(8, .v (.int .i64 i)), (7, .v (.int .i64 2)), (6, .dsl 1 [[.v (.int .i64 x)], [.v (.int .i64 y)]]), (3, .v (.int .i64 0))], [], 0))
    (fun i => i ≤ 2 ∧ (0 < i → x = 0) ∧ (1 < i → y = 0)) (fun i => 2 - i) 0 (by simp) ⟨by (repeat (refine ⟨by first | exact lk_i rfl rfl | exact lk_d rfl rfl, ?_⟩)); exact trivial, by exact trivial, by rfl, by exact pin_0⟩ ?_
  rintro i ⟨hi, h0, h1⟩
  match i, hi with
  | 0, _ =>
    have b2 : decide (((0 : Nat) : Int) < 2) = true := by simp
    ((repeat' (first
    | (show SQ _ _ _ _ _ _ _ _; first | apply sq_nil | (apply q_move; exact rfl; exact rfl) | (apply q_assign; exact rfl; exact rfl) | (apply q_add; iterate 3 exact rfl) | (apply q_neq; iterate 3 exact rfl) | (apply q_lss; iterate 3 exact rfl) | (apply q_ixd; (iterate 3 exact rfl); exact (ty rfl); exact rfl; exact (by first | omega | (simp; done) | (simp; omega)); exact (by first | omega | (simp; done) | (simp; omega)); exact (by first | rfl | assumption)) | (apply q_ld1d; exact rfl; exact rfl; exact (ty rfl); exact rfl; exact rfl))
    | (show AW _ _ _ _ _ _ _ _; first | refine aw_region ?_ | (refine aw_seqk ?_; intro K hK) | refine aw_block ?_ | (apply aw_cond_t; exact rfl; exact rfl) | refine aw_ret ?_ | refine aw_skip ?_ | (apply aw_ite; exact rfl; all_goals intro h))
    | refine thn_n ?_
    | (refine hK _ _ _ ?_; clear hK K)
    | refine thn_r ?_
    | refine inb_n ?_
    | refine inb_r ?_)); all_goals (repeat (clear hK K)))
    all_goals first
      | (refine fin_r (fin_i rfl ?_); simp_all; done)
      | (refine ⟨1, id, ⟨by omega, by simp_all, by simp⟩, by omega, ⟨by (repeat (refine ⟨by first | exact lk_i rfl rfl | exact lk_d rfl rfl, ?_⟩)); exact trivial, by exact trivial, by rfl, by exact pin_0⟩⟩)
  | 1, _ =>
    have b2 : decide (((1 : Nat) : Int) < 2) = true := by simp
    have h0 := h0 (by omega)
    ((repeat' (first
    | (show SQ _ _ _ _ _ _ _ _; first | apply sq_nil | (apply q_move; exact rfl; exact rfl) | (apply q_assign; exact rfl; exact rfl) | (apply q_add; iterate 3 exact rfl) | (apply q_neq; iterate 3 exact rfl) | (apply q_lss; iterate 3 exact rfl) | (apply q_ixd; (iterate 3 exact rfl); exact (ty rfl); exact rfl; exact (by first | omega | (simp; done) | (simp; omega)); exact (by first | omega | (simp; done) | (simp; omega)); exact (by first | rfl | assumption)) | (apply q_ld1d; exact rfl; exact rfl; exact (ty rfl); exact rfl; exact rfl))
    | (show AW _ _ _ _ _ _ _ _; first | refine aw_region ?_ | (refine aw_seqk ?_; intro K hK) | refine aw_block ?_ | (apply aw_cond_t; exact rfl; exact rfl) | refine aw_ret ?_ | refine aw_skip ?_ | (apply aw_ite; exact rfl; all_goals intro h))
    | refine thn_n ?_
    | (refine hK _ _ _ ?_; clear hK K)
    | refine thn_r ?_
    | refine inb_n ?_
    | refine inb_r ?_)); all_goals (repeat (clear hK K)))
    all_goals first
      | (refine fin_r (fin_i rfl ?_); simp_all; done)
      | (refine ⟨2, id, ⟨by omega, by simp_all, by simp_all⟩, by omega, ⟨by (repeat (refine ⟨by first | exact lk_i rfl rfl | exact lk_d rfl rfl, ?_⟩)); exact trivial, by exact trivial, by rfl, by exact pin_0⟩⟩)
  | 2, _ =>
    have b2 : decide (((2 : Nat) : Int) < 2) = false := by simp
    ((repeat' (first
    | (show SQ _ _ _ _ _ _ _ _; first | apply sq_nil | (apply q_move; exact rfl; exact rfl) | (apply q_assign; exact rfl; exact rfl) | (apply q_lss; iterate 3 exact rfl))
    | (show AW _ _ _ _ _ _ _ _; first | refine aw_region ?_ | (refine aw_seqk ?_; intro K hK) | (apply aw_cond_f; exact rfl; exact rfl) | refine aw_ret ?_ | refine aw_exit ?_)
    | refine thn_n ?_
    | (refine hK _ _ _ ?_; clear hK K)
    | refine thn_e ?_
    | refine inb_same ?_
    | (clear hK K; refine hK _ _ _ ?_; clear hK K))); all_goals (repeat (clear hK K)))
    all_goals refine fin_r (fin_i rfl ?_)
    simp_all
end Go.Proofs.Ytglfcaioapdiaaa.Bk

namespace Go.Proofs.Ytglfcaioapdiaaa.Bk
open Go Go.RowKit Go.Proofs.Ytglfcaioapdiaaa.Aw
set_option linter.unusedSimpArgs false
set_option linter.unusedVariables false
attribute [local irreducible] AW SQ Step RO RC DE Thn InB
def inL (x : Int) : List AV := [.v (.int .i64 x)]
theorem inL_eq (x : Int) : inL x = [.v (.int .i64 x)] := rfl
def ramp {α : Type} (f : Nat → α) (xs : List α) (i : Nat) : List α := (List.range i).map f ++ xs.drop i
theorem ramp_get {α : Type} {f : Nat → α} {xs : List α} {i : Nat} (h : i < xs.length) : (ramp f xs i)[i]? = some xs[i] := by
  unfold ramp; rw [List.getElem?_append_right (by simp)]; simp [h]
theorem ramp_set {α : Type} {f : Nat → α} {xs : List α} {i : Nat} (h : i < xs.length) : (ramp f xs i).set i (f i) = ramp f xs (i + 1) := by
  unfold ramp
  rw [List.drop_eq_getElem_cons h, List.set_append_right _ _ (by simp), List.range_succ]
  simp only [List.length_map, List.length_range, Nat.sub_self, List.set_cons_zero, List.map_append, List.map_cons, List.map_nil, List.append_assoc, List.singleton_append]
theorem ramp_zero {α : Type} {f : Nat → α} {xs : List α} : ramp f xs 0 = xs := by simp [ramp]
theorem ramp_full {α : Type} {f : Nat → α} {xs : List α} : ramp f xs xs.length = (List.range xs.length).map f := by simp [ramp]
def up (z : Int) (i : Nat) : Int := z + (i : Int)
end Go.Proofs.Ytglfcaioapdiaaa.Bk

namespace Go.Proofs.Ytglfcaioapdiaaa.So
open Go Go.RowKit Go.Proofs.Ytglfcaioapdiaaa.Aw Go.Proofs.Ytglfcaioapdiaaa.Bk
set_option linter.unusedSimpArgs false
set_option linter.unusedVariables false
def srt (xs : List Int) : List Int := xs.mergeSort fun x y => decide (x ≤ y)
theorem srt_len (xs : List Int) : (srt xs).length = xs.length := List.length_mergeSort _
set_option maxHeartbeats 4000000 in
theorem Sort_rc (b : Nat) (xs : List Int) (hn : xs.length ≤ 1048576) (k : Nat) : RC Try.prog 71 [.sl b 0 xs.length] [(b, ⟨2, 1, true, xs.map inL⟩)] k (.tup []) [(b, some ⟨2, 1, true, (srt xs).map inL⟩)] k := by
  refine ⟨goFn_of Try.func71 rfl (by kernel_rfl), Nat.le_refl _, fun i ob h => .inl ?_, fun K m S w vs hk hS hin hown hinj hom hv => ?_⟩
  · rw [lkE_cons] at h
    split at h
    · rename_i e; subst e; rw [look_cons, if_pos rfl]; rfl
    · simp [lkE] at h
  have hl : Aw.look [(b, (⟨2, 1, true, xs.map inL⟩ : Blk))] b = some ⟨2, 1, true, xs.map inL⟩ := by rw [look_cons, if_pos rfl]
  have one : ∀ {B : Blk} {i : Nat} {c : Blk}, Aw.look [(b, B)] i = some c → i = b ∧ c = B := fun h => by
    rw [look_cons] at h
    split at h
    · rename_i e; cases h; exact ⟨e.symm, rfl⟩
    · simp [look_nil] at h
  have ovE : ∀ {i : Nat} {c : Blk}, Aw.look (ovr [(b, some (⟨2, 1, true, (srt xs).map inL⟩ : Blk))] [(b, (⟨2, 1, true, xs.map inL⟩ : Blk))]) i = some c → i = b ∧ c = ⟨2, 1, true, (srt xs).map inL⟩ := fun {i c} h => by
    rw [look_ovr, lkE_cons] at h
    split at h
    · rename_i e; cases h; exact ⟨e.symm, rfl⟩
    · rename_i e
      simp only [lkE, Option.getD_none] at h
      exact absurd (one h).1 (fun x => e x.symm)
  obtain ⟨hvl, hvv⟩ := hv
  obtain ⟨x, rfl⟩ : ∃ x, vs = [x] := by
    match vs, hvl with
    | [x], _ => exact ⟨x, rfl⟩
  have hx := hvv 0 _ x rfl rfl
  generalize hnn : xs.length = nn at hx
  have post : ∀ w', w.grownBy w' (if (m b).ph = false then some (m b).blk else none) → OB K w' m (addS S k k) b ⟨2, 1, true, (srt xs).map inL⟩ → PostC [(b, (⟨2, 1, true, xs.map inL⟩ : Blk))] [(b, some ⟨2, 1, true, (srt xs).map inL⟩)] K m S w k k (.tup []) (.tuple #[]) w' m K := fun w' hg ho =>
    { ag := fun _ _ => rfl, os := hg.os, tape := hg.tape, output := hg.output, size := hg.size
      keep := fun j hj hne => hg.block j hj (fun e => by
        split at e
        · rename_i hp; simp only [Option.some.injEq] at e; exact hne b _ hl hp e.symm
        · cases e)
      gk := fun _ h => h, gk2 := fun _ h => .inl h, kb := fun j h => Nat.lt_of_lt_of_le (hk j h) hg.size
      vr := .tup _ [] [] rfl (fun j cv y h => by simp at h)
      loc := fun i c h hp => by obtain ⟨rfl, rfl⟩ := ovE h; exact .inr ⟨i, _, hl, hp, rfl⟩
      om := fun i c h hp hq => by obtain ⟨rfl, rfl⟩ := ovE h; have := hom i _ hl hp hq; cases this
      own := fun i c h => by obtain ⟨rfl, rfl⟩ := ovE h; exact ho
      inj := fun i j bi bj h1 h2 hne => by obtain ⟨rfl, _⟩ := ovE h1; obtain ⟨rfl, _⟩ := ovE h2; exact absurd rfl hne }
  have hsl := srt_len xs
  cases hx with
  | sl0 _ _ _ ad hSb =>
    have h0 : xs = [] := List.length_eq_zero_iff.1 hnn
    have h1 : srt xs = [] := List.length_eq_zero_iff.1 (by rw [hsl, hnn])
    refine (slices_Sort_int_none ad 0 w).mono ?_
    rintro e w' ⟨rfl, rfl⟩
    refine ⟨_, m, K, rfl, post _ ⟨rfl, rfl, rfl, Nat.le_refl _, fun _ _ _ => rfl⟩ ?_⟩
    have := hown b _ hl
    rw [h0] at this
    rw [h1]
    exact this.mono (fun _ _ => rfl) (fun _ _ => rfl) (fun i h => .inl h) (fun _ _ => rfl) (hin b _ hl)
  | sl _ _ _ _ o c hSb hph ho hc =>
    subst hnn
    rcases hown b _ hl with ⟨h, _⟩ | ⟨_, hB⟩
    · rw [hph] at h; cases h
    obtain ⟨cur, g1, g2, g3⟩ := hB.ex
    have o0 : o = 0 := by rw [ho, Nat.zero_mul]
    subst o0
    have hcell : ∀ j, (hj : j < xs.length) → cur[j]? = some (.int .i64 xs[j]) := fun j hj => by
      obtain ⟨_, q⟩ := g3 j (inL xs[j]) (by simp [hj])
      obtain ⟨y, y1, _, y3⟩ := q 0 (.v (.int .i64 xs[j])) rfl
      cases y3
      simpa using y1
    have hcap := hB.cap
    have hszz := hB.sz
    simp only [List.length_map, Nat.mul_one] at hcap g2 hszz
    have hH : Sort.Holds (Value.int .i64) w (m b).blk 0 xs.toArray := fun j hj => by
      have hj : j < xs.length := by simpa using hj
      refine ⟨?_, by simp [World.frozen?, g1]⟩
      have := hcell j hj
      simp only [World.cell?, g1, Nat.zero_add, Option.isSome_none, Bool.false_eq_true, if_false]
      rw [this]
      simp [getElem!_pos, hj]
    refine (slices_Sort_int (m b).blk 0 c xs w hH hB.lt_size (by omega)).mono ?_
    rintro e w' ⟨rfl, q, os, rfl⟩
    refine ⟨_, m, K, rfl, post _ (by rw [if_pos hph]; exact grownBy_sortedI _) (.inr ⟨hph, ?_⟩)⟩
    have hb' := heap_sortedI (n := q) (os := os) (srt xs).toArray g1
    refine ⟨hB.nk, hB.sz, by simpa [hsl] using hcap, hB.capm, fun _ r row hr j cv hj => ?_, _, hb', by simp [Sort.putCells, g2], fun r row hr => ?_⟩
    · rw [List.getElem?_map] at hr
      cases hq : (srt xs)[r]? with
      | none => rw [hq] at hr; cases hr
      | some z =>
        rw [hq] at hr; cases hr
        match j, hj with
        | 0, hj => cases hj; rfl
    · rw [List.getElem?_map] at hr
      cases hq : (srt xs)[r]? with
      | none => rw [hq] at hr; cases hr
      | some z =>
        rw [hq] at hr; cases hr
        refine ⟨rfl, fun j cv hj => ?_⟩
        match j, hj with
        | 0, hj =>
          cases hj
          have hr2 : r < (srt xs).length := (List.getElem?_eq_some_iff.1 hq).1
          refine ⟨.int .i64 z, ?_, rfl, .v _ _⟩
          have hr3 : r < cur.size := by omega
          have hz : (srt xs)[r] = z := (List.getElem?_eq_some_iff.1 hq).2
          simp [Sort.putCells, Array.getElem?_mapIdx, hr2, hr3, hz]
end Go.Proofs.Ytglfcaioapdiaaa.So

namespace Go.Proofs.Ytglfcaioapdiaaa.Bk
open Go Go.RowKit Go.Proofs.Ytglfcaioapdiaaa.Aw
set_option linter.unusedSimpArgs false
set_option linter.unusedVariables false
attribute [local irreducible] AW SQ Step RO RC DE Thn InB
theorem allR_false {n : Nat} {f : Nat → Bool} {i : Nat} (hi : i < n) (h : f i = false) : (List.range n).all f = false := by
  cases ha : (List.range n).all f with
  | false => rfl
  | true => have := List.all_eq_true.1 ha i (List.mem_range.2 hi); rw [h] at this; cases this
theorem allR_true {n : Nat} {f : Nat → Bool} (h : ∀ i, i < n → f i = true) : (List.range n).all f = true :=
  List.all_eq_true.2 fun i hi => h i (List.mem_range.1 hi)
def sOk (n : Int) (l : Ln) : Bool := inB l.a 0 (n - 1) && inB l.b (l.a + 1) (n - 1) && inB l.o 0 1000000 && inB l.c 1 1000000
def lexB (p q : Ln) : Bool := decide (p.a < q.a) || (decide (p.a = q.a) && decide (p.b < q.b))
def goodL (n : Int) (ls : List Ln) (i : Nat) : Bool := sOk n (ls.getD i lnz) && (decide (i = 0) || lexB (ls.getD (i - 1) lnz) (ls.getD i lnz))
def bkB (n : Int) (ls : List Ln) : Bool := inB n 1 12 && decide (ls.length ≤ 32) && (List.range ls.length).all (goodL n ls)
theorem bkB_false {n : Int} {ls : List Ln} {i : Nat} (hi : i < ls.length) (h : goodL n ls i = false) : bkB n ls = false := by
  rw [bkB, allR_false hi h, Bool.and_false]
theorem sOk_impl (n : Int) (l : Ln) : (inB l.b 0 (n - 1) && inB l.a 0 (l.b - 1) && inB l.o 0 1000000 && inB l.c 1 1000000) = sOk n l := by
  have : (inB l.b 0 (n - 1) && inB l.a 0 (l.b - 1)) = (inB l.a 0 (n - 1) && inB l.b (l.a + 1) (n - 1)) := by
    rw [Bool.eq_iff_iff]; simp only [inB, Bool.and_eq_true, decide_eq_true_eq]; omega
  rw [sOk, this]
theorem or_lex (p q : Ln) : decide (0 ≤ (if i64c p.a q.a = 0 then i64c p.b q.b else i64c p.a q.a)) = !lexB p q := by
  unfold i64c lexB
  rw [Bool.eq_iff_iff]
  simp only [Bool.not_eq_true', Bool.or_eq_false_iff, Bool.and_eq_false_imp, decide_eq_true_eq, decide_eq_false_iff_not]
  constructor
  · intro h; (repeat' split at h) <;> simp_all <;> omega
  · intro h; (repeat' split) <;> simp_all <;> omega
set_option maxHeartbeats 4000000 in
theorem l25Ok_ro (n : Int) (ls : List Ln) (hn : ls.length ≤ 1048576) (k : Nat) : RO Try.prog 60 [.dptr (bkL n ls)] k (.v (.bool (bkB n ls))) [] k := by
  unfold bkL
  by_cases c0 : (inB n 1 12 && decide (ls.length ≤ 32)) = true
  · simp only [Bool.and_eq_true, decide_eq_true_eq] at c0
    obtain ⟨c0, c1⟩ := c0
    have b0 : (!inB n 1 12) = false := by rw [c0]; rfl
    have b1 : decide ((32 : Int) < ((ls.map lnL).length : Int)) = false := by simp; omega
    have hn1 : 1 ≤ n ∧ n ≤ 12 := by simpa [inB] using c0
    have hw : IntKind.i64.wrap (n - 1) = n - 1 := IntWalk.i64_in _ (by omega)
    refine RO.ofv' Try.func60 Try.ntmps60 rfl (goFn_of Try.func60 rfl (by kernel_rfl)) rfl rfl ?_
    ((repeat' (first
    | (show SQ _ _ _ _ _ _ _ _; first | apply sq_nil | (apply q_move; exact rfl; exact rfl) | (apply q_assign; exact rfl; exact rfl) | (apply q_pick_f; (iterate 3 exact rfl); exact (by first | assumption | exact rfl)) | (apply q_fieldAddr; exact rfl; exact rfl; exact (ty rfl); iterate 4 exact rfl) | (apply q_nilc; iterate 3 exact rfl) | (apply q_not; exact rfl; exact rfl) | (apply q_lend; exact rfl; exact rfl; exact (ty rfl); exact rfl) | (apply q_gtr; iterate 3 exact rfl) | (apply q_ld1d; exact rfl; exact rfl; exact (ty rfl); exact rfl; exact rfl) | (apply q_g; (iterate 3 exact rfl); exact (by assumption)))
    | (show SQ _ _ _ _ _ _ _ _; (first | (apply q_callU; (iterate 3 exact rfl); exact FzL.of rfl; exact l00In_ro _ _ _ _)); (try simp only [put, rowsOf, plR, selE, ovr, setH, del, cellsA, splice, isV, spq, if_true, if_false]))
    | (show AW _ _ _ _ _ _ _ _; first | refine aw_region ?_ | (refine aw_seqk ?_; intro K hK) | refine aw_block ?_ | (apply aw_cond_f; exact rfl; exact (by assumption)) | refine aw_skip ?_)
    | refine thn_n ?_
    | (refine hK _ _ _ ?_; clear hK K))); all_goals (repeat (clear hK K)))
    refine aw_loop (ρ := id) (ι := Nat) (fun i => ([(3, .v (.int .i64 i)), (0, .dptr [.v (.int .i64 n), .dsl 4 (ls.map lnL)])], [], 0))
      (fun i => i ≤ ls.length ∧ ∀ j, j < i → goodL n ls j = true) (fun i => ls.length - i) 0 ⟨Nat.zero_le _, fun _ h => absurd h (Nat.not_lt_zero _)⟩ ⟨by (repeat (refine ⟨by first | exact lk_i rfl rfl | exact lk_p rfl rfl, ?_⟩)); exact trivial, by exact trivial, by rfl, by exact pin_0⟩ ?_
    rintro i ⟨hi, hg⟩
    by_cases c2 : i < ls.length
    · have b2 : decide ((i : Int) < ((ls.map lnL).length : Int)) = true := by simpa using c2
      have hrow : (ls.map lnL)[((i : Int)).toNat]? = some (lnL ls[i]) := by simp [c2]
      rw [lnL_eq ls[i]] at hrow
      have hD : ls.getD i lnz = ls[i] := by simp [List.getD, c2]
      have hwa : inB ls[i].a 0 (n - 1) = true → IntKind.i64.wrap (ls[i].a + 1) = ls[i].a + 1 := fun h => IntWalk.i64_in _ (by simp [inB] at h; omega)
      by_cases c3 : i = 0
      · have b5 : decide ((0 : Int) < (i : Int)) = false := by simp; omega
        ((repeat' (first
    | (show SQ _ _ _ _ _ _ _ _; first | apply sq_nil | (apply q_move; exact rfl; exact rfl) | (apply q_assign; exact rfl; exact rfl) | (apply q_fieldAddr; exact rfl; exact rfl; exact (ty rfl); iterate 4 exact rfl) | (apply q_nilc; iterate 3 exact rfl) | (apply q_lend; exact rfl; exact rfl; exact (ty rfl); exact rfl) | (apply q_add; iterate 3 exact rfl) | (apply q_lss; iterate 3 exact rfl) | (apply q_ixd; (iterate 3 exact rfl); exact (ty rfl); exact rfl; exact (by first | omega | (simp; done) | (simp; omega)); exact (by first | omega | (simp; done) | (simp; omega)); exact (by first | rfl | assumption)) | (apply q_ld1d; exact rfl; exact rfl; exact (ty rfl); exact rfl; exact rfl))
    | (show SQ _ _ _ _ _ _ _ _; (first | (apply q_ldad; exact rfl; exact rfl; exact (ty rfl); exact rfl; exact rfl) | (apply q_alloc; exact rfl; exact (ty rfl); exact rfl; exact rfl) | (apply q_store; exact rfl; exact rfl; exact (ty rfl); exact rfl; exact (by first | rfl | assumption | ((try simp only [Nat.zero_add]); refine List.getElem?_set_self ?_; (try simp only [List.length_set]); assumption)); iterate 3 exact rfl)); (try simp only [put, rowsOf, plR, selE, ovr, setH, del, cellsA, splice, isV, spq, if_true, if_false]))
    | (show DE _ _ _ _ _ _ _ _ _ _ _ _; first | (apply e_move; iterate 3 exact rfl) | (apply e_pick_t; (iterate 3 exact rfl); exact (by first | assumption | exact rfl); exact rfl) | (apply e_pick_f; (iterate 3 exact rfl); exact (by first | assumption | exact rfl); exact rfl) | (apply e_fieldAddr; exact rfl; exact rfl; exact (ty rfl); iterate 5 exact rfl) | (apply e_nilc; iterate 4 exact rfl) | (apply e_not; iterate 3 exact rfl) | (apply e_add; iterate 4 exact rfl) | (apply e_sub; iterate 4 exact rfl) | (apply e_gtr; iterate 4 exact rfl) | (apply e_ld1d; exact rfl; exact rfl; exact (ty rfl); iterate 3 exact rfl) | (apply e_ld1p; exact rfl; exact rfl; exact (ty rfl); exact rfl; exact rfl; exact (by first | rfl | assumption | ((try simp only [Nat.zero_add]); refine List.getElem?_set_self ?_; (try simp only [List.length_set]); assumption)); exact rfl; exact rfl) | (apply e_g; (iterate 3 exact rfl); exact (by assumption)) | (apply e_s; (iterate 3 exact rfl); exact (by assumption); exact rfl) | (apply e_s; iterate 5 exact rfl) | (apply e_sU; iterate 5 exact rfl))
    | (show DE _ _ _ _ _ _ _ _ _ _ _ _; (first | (apply dr_nil; exact trivial) | (apply e_callU; (iterate 3 exact rfl); exact FzL.of rfl; exact l00In_ro _ _ _ _; exact rfl) | (apply e_callU; (iterate 3 exact rfl); exact FzL.of rfl; exact l13Outage_ro _ _; exact rfl)); (try simp only [put, rowsOf, plR, selE, ovr, setH, del, cellsA, splice, isV, spq, if_true, if_false]))
    | (show DE _ _ _ _ _ _ _ _ _ _ _ _; apply e_gs; (iterate 4 exact rfl); all_goals intro h)
    | (show AW _ _ _ _ _ _ _ _; first | refine aw_region ?_ | (refine aw_seqk ?_; intro K hK) | refine aw_block ?_ | (apply aw_cond_t; exact rfl; exact rfl) | (apply aw_cond_f; exact rfl; exact rfl) | (apply aw_cond_t; exact rfl; exact (by assumption)) | refine aw_ret ?_ | refine aw_skip ?_ | refine aw_drawE (id := 7) [0, 1, 0, 4, 12, 28, 60, 127, 255, 511, 1023, 2047, 1023, 5119, 13311, 1023, 33791, 99327, 230399, 492543, 1048575, 2097151, 4194303, 8388607, 16777215, 33554431, 67108863, 134217727, 268435455, 536870911, 1073741823, 2147483647, 4294967295, 8589934591, 17179869183] [0, 1, 0, 0, 0, 1, 0, 1, 0, 0, 0, 1, 0, 1, 0, 0, 0, 0, 1, 0, 1, 0, 0, 0, 0, 1, 1, 0, 0, 0, 0, 1, 1, 0, 0] mixed (by kernel_rfl) ?_ | refine aw_drawE (id := 9) [0, 1, 3, 7, 15, 31, 63, 7, 135, 511, 1023, 2047, 7, 4103, 16383, 32767, 65535, 131071, 262143, 524287, 65535, 1114111, 4194303, 8388607, 16777215, 65535, 33619967, 134217727, 268435455, 536870911, 1073741823, 2147483647, 4294967295, 536870911, 9126805503, 34359738367, 68719476735, 137438953471, 536870911, 275414777855, 1099511627775, 2199023255551, 4398046511103, 8796093022207] [0, 0, 0, 0, 0, 0, 1, 0, 0, 0, 0, 1, 0, 1, 0, 0, 0, 0, 0, 1, 0, 0, 0, 0, 1, 0, 1, 0, 0, 0, 0, 0, 1, 0, 0, 0, 0, 1, 0, 1, 0, 0, 0, 0] mixed (by kernel_rfl) ?_ | (apply aw_ite; exact rfl; all_goals intro h))
    | refine thn_n ?_
    | (refine hK _ _ _ ?_; clear hK K)
    | refine thn_r ?_
    | refine inb_n ?_
    | refine inb_r ?_)); all_goals (repeat (clear hK K)))
        all_goals first
          | (refine fin_r (fin_b rfl ?_)
             refine (bkB_false c2 ?_).symm
             simp_all [goodL, sOk]; done)
          | (refine ⟨i + 1, id, ⟨c2, fun j hj => ?_⟩, by omega, ⟨by (repeat (refine ⟨by first | exact lk_i rfl (by (try dsimp only); first | rfl | omega | (rw [IntWalk.i64_in _ (by omega)]; first | rfl | omega | (push_cast; omega)) | (simp; done) | (simp; omega)) | exact lk_p rfl rfl, ?_⟩)); exact trivial, by exact trivial, by rfl, by exact pin_0⟩⟩
             by_cases hjq : j < i
             · exact hg j hjq
             · have : j = i := by omega
               subst this
               simp_all [goodL, sOk])
      · have hw2 : IntKind.i64.wrap ((i : Int) - 1) = (i : Int) - 1 := IntWalk.i64_in _ (by omega)
        have hrow2 : (ls.map lnL)[(IntKind.i64.wrap ((i : Int) - 1)).toNat]? = some (lnL ls[i - 1]) := by
          rw [hw2, show ((i : Int) - 1).toNat = i - 1 by omega]; simp [show i - 1 < ls.length by omega]
        rw [lnL_eq ls[i - 1]] at hrow2
        have hP : ls.getD (i - 1) lnz = ls[i - 1] := by simp [List.getD, show i - 1 < ls.length by omega]
        have b5 : decide ((0 : Int) < (i : Int)) = true := by simp; omega
        ((repeat' (first
    | (show SQ _ _ _ _ _ _ _ _; first | apply sq_nil | (apply q_move; exact rfl; exact rfl) | (apply q_assign; exact rfl; exact rfl) | (apply q_fieldAddr; exact rfl; exact rfl; exact (ty rfl); iterate 4 exact rfl) | (apply q_nilc; iterate 3 exact rfl) | (apply q_lend; exact rfl; exact rfl; exact (ty rfl); exact rfl) | (apply q_add; iterate 3 exact rfl) | (apply q_lss; iterate 3 exact rfl) | (apply q_ixd; (iterate 3 exact rfl); exact (ty rfl); exact rfl; exact (by first | omega | (simp; done) | (simp; omega)); exact (by first | omega | (simp; done) | (simp; omega)); exact (by first | rfl | assumption)) | (apply q_ld1d; exact rfl; exact rfl; exact (ty rfl); exact rfl; exact rfl))
    | (show SQ _ _ _ _ _ _ _ _; (first | (apply q_ldad; exact rfl; exact rfl; exact (ty rfl); exact rfl; exact rfl) | (apply q_alloc; exact rfl; exact (ty rfl); exact rfl; exact rfl) | (apply q_store; exact rfl; exact rfl; exact (ty rfl); exact rfl; exact (by first | rfl | assumption | ((try simp only [Nat.zero_add]); refine List.getElem?_set_self ?_; (try simp only [List.length_set]); assumption)); iterate 3 exact rfl)); (try simp only [put, rowsOf, plR, selE, ovr, setH, del, cellsA, splice, isV, spq, if_true, if_false]))
    | (show DE _ _ _ _ _ _ _ _ _ _ _ _; first | (apply e_move; iterate 3 exact rfl) | (apply e_pick_t; (iterate 3 exact rfl); exact (by first | assumption | exact rfl); exact rfl) | (apply e_pick_f; (iterate 3 exact rfl); exact (by first | assumption | exact rfl); exact rfl) | (apply e_fieldAddr; exact rfl; exact rfl; exact (ty rfl); iterate 5 exact rfl) | (apply e_nilc; iterate 4 exact rfl) | (apply e_not; iterate 3 exact rfl) | (apply e_add; iterate 4 exact rfl) | (apply e_sub; iterate 4 exact rfl) | (apply e_eql; iterate 4 exact rfl) | (apply e_gtr; iterate 4 exact rfl) | (apply e_geq; iterate 4 exact rfl) | (apply e_ixd; (iterate 3 exact rfl); exact (ty rfl); exact rfl; exact (by first | omega | (simp; done) | (simp; omega)); exact (by first | omega | (simp; done) | (simp; omega)); exact (by first | rfl | assumption); exact rfl) | (apply e_ld1d; exact rfl; exact rfl; exact (ty rfl); iterate 3 exact rfl) | (apply e_ld1p; exact rfl; exact rfl; exact (ty rfl); exact rfl; exact rfl; exact (by first | rfl | assumption | ((try simp only [Nat.zero_add]); refine List.getElem?_set_self ?_; (try simp only [List.length_set]); assumption)); exact rfl; exact rfl) | (apply e_g; (iterate 3 exact rfl); exact (by assumption)) | (apply e_s; (iterate 3 exact rfl); exact (by assumption); exact rfl) | (apply e_s; iterate 5 exact rfl) | (apply e_sU; iterate 5 exact rfl))
    | (show DE _ _ _ _ _ _ _ _ _ _ _ _; (first | (apply dr_nil; exact trivial) | (apply e_callU; (iterate 3 exact rfl); exact FzL.of rfl; exact l00In_ro _ _ _ _; exact rfl) | (apply e_callU; (iterate 3 exact rfl); exact FzL.of rfl; exact l13Outage_ro _ _; exact rfl)); (try simp only [put, rowsOf, plR, selE, ovr, setH, del, cellsA, splice, isV, spq, if_true, if_false]))
    | (show DE _ _ _ _ _ _ _ _ _ _ _ _; apply e_gs; (iterate 4 exact rfl); all_goals intro h)
    | (show AW _ _ _ _ _ _ _ _; first | refine aw_region ?_ | (refine aw_seqk ?_; intro K hK) | refine aw_block ?_ | (apply aw_cond_t; exact rfl; exact rfl) | (apply aw_cond_f; exact rfl; exact rfl) | (apply aw_cond_t; exact rfl; exact (by assumption)) | refine aw_ret ?_ | refine aw_skip ?_ | refine aw_drawE (id := 7) [0, 1, 0, 4, 12, 28, 60, 127, 255, 511, 1023, 2047, 1023, 5119, 13311, 1023, 33791, 99327, 230399, 492543, 1048575, 2097151, 4194303, 8388607, 16777215, 33554431, 67108863, 134217727, 268435455, 536870911, 1073741823, 2147483647, 4294967295, 8589934591, 17179869183] [0, 1, 0, 0, 0, 1, 0, 1, 0, 0, 0, 1, 0, 1, 0, 0, 0, 0, 1, 0, 1, 0, 0, 0, 0, 1, 1, 0, 0, 0, 0, 1, 1, 0, 0] mixed (by kernel_rfl) ?_ | refine aw_drawE (id := 9) [0, 1, 3, 7, 15, 31, 63, 7, 135, 511, 1023, 2047, 7, 4103, 16383, 32767, 65535, 131071, 262143, 524287, 65535, 1114111, 4194303, 8388607, 16777215, 65535, 33619967, 134217727, 268435455, 536870911, 1073741823, 2147483647, 4294967295, 536870911, 9126805503, 34359738367, 68719476735, 137438953471, 536870911, 275414777855, 1099511627775, 2199023255551, 4398046511103, 8796093022207] [0, 0, 0, 0, 0, 0, 1, 0, 0, 0, 0, 1, 0, 1, 0, 0, 0, 0, 0, 1, 0, 0, 0, 0, 1, 0, 1, 0, 0, 0, 0, 0, 1, 0, 0, 0, 0, 1, 0, 1, 0, 0, 0, 0] mixed (by kernel_rfl) ?_ | (apply aw_ite; exact rfl; all_goals intro h))
    | refine thn_n ?_
    | (refine hK _ _ _ ?_; clear hK K)
    | refine thn_r ?_
    | refine inb_n ?_
    | refine inb_r ?_)); all_goals (repeat (clear hK K)))
        all_goals first
          | (refine fin_r (fin_b rfl ?_)
             refine (bkB_false c2 ?_).symm
             simp_all [goodL, sOk, lexB]; done)
          | (refine fin_r (fin_b rfl ?_)
             refine (bkB_false c2 ?_).symm
             simp_all [goodL, sOk, lexB]; intros; omega)
          | (refine ⟨i + 1, id, ⟨c2, fun j hj => ?_⟩, by omega, ⟨by (repeat (refine ⟨by first | exact lk_i rfl (by (try dsimp only); first | rfl | omega | (rw [IntWalk.i64_in _ (by omega)]; first | rfl | omega | (push_cast; omega)) | (simp; done) | (simp; omega)) | exact lk_p rfl rfl, ?_⟩)); exact trivial, by exact trivial, by rfl, by exact pin_0⟩⟩
             by_cases hjq : j < i
             · exact hg j hjq
             · have : j = i := by omega
               subst this
               first | (simp_all [goodL, sOk, lexB]; done) | (simp_all [goodL, sOk, lexB]; omega))
    · have b2 : decide ((i : Int) < ((ls.map lnL).length : Int)) = false := by simpa using c2
      ((repeat' (first
    | (show SQ _ _ _ _ _ _ _ _; first | apply sq_nil | (apply q_move; exact rfl; exact rfl) | (apply q_assign; exact rfl; exact rfl) | (apply q_fieldAddr; exact rfl; exact rfl; exact (ty rfl); iterate 4 exact rfl) | (apply q_nilc; iterate 3 exact rfl) | (apply q_lend; exact rfl; exact rfl; exact (ty rfl); exact rfl) | (apply q_lss; iterate 3 exact rfl) | (apply q_ld1d; exact rfl; exact rfl; exact (ty rfl); exact rfl; exact rfl))
    | (show AW _ _ _ _ _ _ _ _; first | refine aw_region ?_ | (refine aw_seqk ?_; intro K hK) | (apply aw_cond_f; exact rfl; exact (by assumption)) | refine aw_ret ?_ | refine aw_exit ?_)
    | refine thn_n ?_
    | (refine hK _ _ _ ?_; clear hK K)
    | refine thn_e ?_
    | refine inb_same ?_
    | (clear hK K; refine hK _ _ _ ?_; clear hK K))); all_goals (repeat (clear hK K)))
      all_goals refine fin_r (fin_b rfl ?_)
      have : i = ls.length := by omega
      subst this
      rw [bkB, allR_true hg, c0]
      simp [c1]
  · have c0 : (inB n 1 12 && decide (ls.length ≤ 32)) = false := by simpa using c0
    have e0 : bkB n ls = false := by rw [bkB, c0]; rfl
    rw [e0]
    by_cases c1 : inB n 1 12 = true
    · have b0 : (!inB n 1 12) = false := by rw [c1]; rfl
      have b1 : decide ((32 : Int) < ((ls.map lnL).length : Int)) = true := by simp [c1] at c0; simp; omega
      refine RO.ofv' Try.func60 Try.ntmps60 rfl (goFn_of Try.func60 rfl (by kernel_rfl)) rfl rfl ?_
      ((repeat' (first
    | (show SQ _ _ _ _ _ _ _ _; first | apply sq_nil | (apply q_move; exact rfl; exact rfl) | (apply q_assign; exact rfl; exact rfl) | (apply q_pick_f; (iterate 3 exact rfl); exact (by first | assumption | exact rfl)) | (apply q_fieldAddr; exact rfl; exact rfl; exact (ty rfl); iterate 4 exact rfl) | (apply q_nilc; iterate 3 exact rfl) | (apply q_not; exact rfl; exact rfl) | (apply q_lend; exact rfl; exact rfl; exact (ty rfl); exact rfl) | (apply q_gtr; iterate 3 exact rfl) | (apply q_ld1d; exact rfl; exact rfl; exact (ty rfl); exact rfl; exact rfl) | (apply q_g; (iterate 3 exact rfl); exact (by assumption)))
    | (show SQ _ _ _ _ _ _ _ _; (first | (apply q_callU; (iterate 3 exact rfl); exact FzL.of rfl; exact l00In_ro _ _ _ _)); (try simp only [put, rowsOf, plR, selE, ovr, setH, del, cellsA, splice, isV, spq, if_true, if_false]))
    | (show AW _ _ _ _ _ _ _ _; first | refine aw_region ?_ | (refine aw_seqk ?_; intro K hK) | (apply aw_cond_t; exact rfl; exact (by assumption)) | refine aw_ret ?_)
    | refine thn_n ?_
    | (refine hK _ _ _ ?_; clear hK K)
    | refine thn_r ?_)); all_goals (repeat (clear hK K)))
      all_goals exact fin_r (fin_b rfl rfl)
    · have b0 : (!inB n 1 12) = true := by simpa using c1
      refine RO.ofv' Try.func60 Try.ntmps60 rfl (goFn_of Try.func60 rfl (by kernel_rfl)) rfl rfl ?_
      ((repeat' (first
    | (show SQ _ _ _ _ _ _ _ _; first | apply sq_nil | (apply q_move; exact rfl; exact rfl) | (apply q_assign; exact rfl; exact rfl) | (apply q_pick_t; (iterate 3 exact rfl); exact (by first | assumption | exact rfl)) | (apply q_fieldAddr; exact rfl; exact rfl; exact (ty rfl); iterate 4 exact rfl) | (apply q_nilc; iterate 3 exact rfl) | (apply q_not; exact rfl; exact rfl) | (apply q_ld1d; exact rfl; exact rfl; exact (ty rfl); exact rfl; exact rfl) | (apply q_s; (iterate 3 exact rfl); exact (by assumption); exact rfl))
    | (show SQ _ _ _ _ _ _ _ _; (first | (apply q_callU; (iterate 3 exact rfl); exact FzL.of rfl; exact l00In_ro _ _ _ _)); (try simp only [put, rowsOf, plR, selE, ovr, setH, del, cellsA, splice, isV, spq, if_true, if_false]))
    | (show AW _ _ _ _ _ _ _ _; first | refine aw_region ?_ | (refine aw_seqk ?_; intro K hK) | (apply aw_cond_t; exact rfl; exact rfl) | refine aw_ret ?_)
    | refine thn_n ?_
    | (refine hK _ _ _ ?_; clear hK K)
    | refine thn_r ?_)); all_goals (repeat (clear hK K)))
      all_goals exact fin_r (fin_b rfl rfl)
end Go.Proofs.Ytglfcaioapdiaaa.Bk

namespace Go.Proofs.Ytglfcaioapdiaaa.Bk
open Go Go.RowKit Go.Proofs.Ytglfcaioapdiaaa.Aw
set_option linter.unusedSimpArgs false
set_option linter.unusedVariables false
attribute [local irreducible] AW SQ Step RO RC DE Thn InB
set_option maxHeartbeats 4000000 in
theorem ValidBackhaul_ro (n : Int) (ls : List Ln) (hn : ls.length ≤ 1048576) (k : Nat) : RO Try.prog 75 [.agg (bkL n ls)] k (.v (.bool (bkB n ls))) [] k := by
  unfold bkL
  by_cases c0 : (inB n 1 12 && decide (ls.length ≤ 32)) = true
  · simp only [Bool.and_eq_true, decide_eq_true_eq] at c0
    obtain ⟨c0, c1⟩ := c0
    have b0 : (!inB n 1 12) = false := by rw [c0]; rfl
    have b1 : decide ((32 : Int) < ((ls.map lnL).length : Int)) = false := by simp; omega
    have hn1 : 1 ≤ n ∧ n ≤ 12 := by simpa [inB] using c0
    have hw : IntKind.i64.wrap (n - 1) = n - 1 := IntWalk.i64_in _ (by omega)
    refine RO.ofv' Try.func75 Try.ntmps75 rfl (goFn_of Try.func75 rfl (by kernel_rfl)) rfl rfl ?_
    ((repeat' (first
    | (show SQ _ _ _ _ _ _ _ _; first | apply sq_nil | (apply q_move; exact rfl; exact rfl) | (apply q_assign; exact rfl; exact rfl) | (apply q_pick_f; (iterate 3 exact rfl); exact (by first | assumption | exact rfl)) | (apply q_fieldAddr; exact rfl; exact rfl; exact (ty rfl); iterate 4 exact rfl) | (apply q_not; exact rfl; exact rfl) | (apply q_lend; exact rfl; exact rfl; exact (ty rfl); exact rfl) | (apply q_gtr; iterate 3 exact rfl) | (apply q_ld1p; exact rfl; exact rfl; exact (ty rfl); exact rfl; exact rfl; exact (by first | rfl | assumption | ((try simp only [Nat.zero_add]); refine List.getElem?_set_self ?_; (try simp only [List.length_set]); assumption)); exact rfl) | (apply q_g; (iterate 3 exact rfl); exact (by assumption)))
    | (show SQ _ _ _ _ _ _ _ _; (first | (apply q_box; iterate 3 exact rfl) | (apply q_callU; (iterate 3 exact rfl); exact FzL.of rfl; exact within_ro _ _ _ _)); (try simp only [put, rowsOf, plR, selE, ovr, setH, del, cellsA, splice, isV, spq, if_true, if_false]))
    | (show AW _ _ _ _ _ _ _ _; first | refine aw_region ?_ | (refine aw_seqk ?_; intro K hK) | refine aw_block ?_ | (apply aw_cond_f; exact rfl; exact (by assumption)) | refine aw_skip ?_)
    | refine thn_n ?_
    | (refine hK _ _ _ ?_; clear hK K))); all_goals (repeat (clear hK K)))
    refine aw_loop (ρ := id) (ι := Nat) (fun i => ([(18, .v (.int .i64 i)), (17, .v (.int .i64 ls.length)), (16, .dsl 4 (ls.map lnL)), (1, .ptr 0 0 0)], [(0, ⟨31, 2, false, [[.v (.int .i64 n), .dsl 4 (ls.map lnL)]]⟩)], 1))
      (fun i => i ≤ ls.length ∧ ∀ j, j < i → goodL n ls j = true) (fun i => ls.length - i) 0 ⟨Nat.zero_le _, fun _ h => absurd h (Nat.not_lt_zero _)⟩ ⟨by (repeat (refine ⟨by first | exact lk_i rfl rfl | exact lk_i rfl (by (try dsimp only); first | rfl | omega | (rw [IntWalk.i64_in _ (by omega)]; first | rfl | omega | (push_cast; omega)) | (simp; done) | (simp; omega)) | exact lk_d rfl rfl | exact lk_r rfl rfl rfl, ?_⟩)); exact trivial, by (repeat (refine ⟨by first | exact ⟨rfl, rfl, rfl⟩, ?_⟩)); exact trivial, by rfl, by exact pin_0⟩ ?_
    rintro i ⟨hi, hg⟩
    by_cases c2 : i < ls.length
    · have b2 : decide ((i : Int) < (ls.length : Int)) = true := by simpa using c2
      have hrow : (ls.map lnL)[((i : Int)).toNat]? = some (lnL ls[i]) := by simp [c2]
      rw [lnL_eq ls[i]] at hrow
      have hD : ls.getD i lnz = ls[i] := by simp [List.getD, c2]
      have hwa : inB ls[i].b 0 (n - 1) = true → IntKind.i64.wrap (ls[i].b - 1) = ls[i].b - 1 := fun h => IntWalk.i64_in _ (by simp [inB] at h; omega)
      have hso := sOk_impl n ls[i]
      by_cases c3 : i = 0
      · have b5 : decide ((0 : Int) < (i : Int)) = false := by simp; omega
        ((repeat' (first
    | (show SQ _ _ _ _ _ _ _ _; first | apply sq_nil | (apply q_move; exact rfl; exact rfl) | (apply q_assign; exact rfl; exact rfl) | (apply q_pick_t; (iterate 3 exact rfl); exact (by first | assumption | exact rfl)) | (apply q_pick_f; (iterate 3 exact rfl); exact (by first | assumption | exact rfl)) | (apply q_fieldAddr; exact rfl; exact rfl; exact (ty rfl); iterate 4 exact rfl) | (apply q_not; exact rfl; exact rfl) | (apply q_add; iterate 3 exact rfl) | (apply q_sub; iterate 3 exact rfl) | (apply q_lss; iterate 3 exact rfl) | (apply q_ixd; (iterate 3 exact rfl); exact (ty rfl); exact rfl; exact (by first | omega | (simp; done) | (simp; omega)); exact (by first | omega | (simp; done) | (simp; omega)); exact (by first | rfl | assumption)) | (apply q_ld1p; exact rfl; exact rfl; exact (ty rfl); exact rfl; exact rfl; exact (by first | rfl | assumption | ((try simp only [Nat.zero_add]); refine List.getElem?_set_self ?_; (try simp only [List.length_set]); assumption)); exact rfl) | (apply q_g; (iterate 3 exact rfl); exact (by assumption)) | (apply q_s; (iterate 3 exact rfl); exact (by assumption); exact rfl) | (apply q_s; iterate 5 exact rfl))
    | (show SQ _ _ _ _ _ _ _ _; (first | (apply q_ldad; exact rfl; exact rfl; exact (ty rfl); exact rfl; exact rfl) | (apply q_alloc; exact rfl; exact (ty rfl); exact rfl; exact rfl) | (apply q_store; exact rfl; exact rfl; exact (ty rfl); exact rfl; exact (by first | rfl | assumption | ((try simp only [Nat.zero_add]); refine List.getElem?_set_self ?_; (try simp only [List.length_set]); assumption)); iterate 3 exact rfl) | (apply q_callU; (iterate 3 exact rfl); exact FzL.of rfl; exact within_ro _ _ _ _)); (try simp only [put, rowsOf, plR, selE, ovr, setH, del, cellsA, splice, isV, spq, if_true, if_false]))
    | (show SQ _ _ _ _ _ _ _ _; apply q_gs; (iterate 4 exact rfl); all_goals intro h)
    | (show DE _ _ _ _ _ _ _ _ _ _ _ _; first | (apply e_move; iterate 3 exact rfl) | (apply e_pick_f; (iterate 3 exact rfl); exact (by first | assumption | exact rfl); exact rfl) | (apply e_gtr; iterate 4 exact rfl) | (apply e_s; (iterate 3 exact rfl); exact (by assumption); exact rfl))
    | (show DE _ _ _ _ _ _ _ _ _ _ _ _; (first | (apply dr_nil; exact trivial)); (try simp only [put, rowsOf, plR, selE, ovr, setH, del, cellsA, splice, isV, spq, if_true, if_false]))
    | (show AW _ _ _ _ _ _ _ _; first | refine aw_region ?_ | (refine aw_seqk ?_; intro K hK) | refine aw_block ?_ | (apply aw_cond_t; exact rfl; exact rfl) | (apply aw_cond_f; exact rfl; exact rfl) | (apply aw_cond_t; exact rfl; exact (by assumption)) | refine aw_ret ?_ | refine aw_skip ?_ | refine aw_drawE (id := 8) [0, 1, 3, 7, 15, 7, 39, 127, 255, 511, 7, 1031, 4095, 7, 8199, 7, 32775, 122887, 253959, 516103, 7, 1048583, 4194303, 8388607, 16777215, 33554431, 67108863] [0, 0, 0, 0, 1, 0, 0, 0, 0, 1, 0, 1, 1, 0, 1, 0, 0, 0, 0, 1, 0, 1, 1, 1, 1, 0, 0] mixed (by kernel_rfl) ?_ | (apply aw_ite; exact rfl; all_goals intro h))
    | refine thn_n ?_
    | (refine hK _ _ _ ?_; clear hK K)
    | refine thn_r ?_
    | refine inb_n ?_
    | refine inb_r ?_)); all_goals (repeat (clear hK K)))
        all_goals first
          | (refine fin_r (fin_b rfl ?_)
             refine (bkB_false c2 ?_).symm
             simp_all [goodL]; done)
          | (refine fin_r (fin_b rfl ?_)
             refine (bkB_false c2 ?_).symm
             simp only [goodL, hD, ← hso]
             simp_all; done)
          | (refine ⟨i + 1, id, ⟨c2, fun j hj => ?_⟩, by omega, ⟨by (repeat (refine ⟨by first | exact lk_i rfl rfl | exact lk_i rfl (by (try dsimp only); first | rfl | omega | (rw [IntWalk.i64_in _ (by omega)]; first | rfl | omega | (push_cast; omega)) | (simp; done) | (simp; omega)) | exact lk_d rfl rfl | exact lk_r rfl rfl rfl, ?_⟩)); exact trivial, by (repeat (refine ⟨by first | exact ⟨rfl, rfl, rfl⟩, ?_⟩)); exact trivial, by rfl, by exact pin_0⟩⟩
             by_cases hjq : j < i
             · exact hg j hjq
             · have : j = i := by omega
               subst this
               simp only [goodL, hD, ← hso]
               simp_all)
      · have hw2 : IntKind.i64.wrap ((i : Int) - 1) = (i : Int) - 1 := IntWalk.i64_in _ (by omega)
        have hrow2 : (ls.map lnL)[(IntKind.i64.wrap ((i : Int) - 1)).toNat]? = some (lnL ls[i - 1]) := by
          rw [hw2, show ((i : Int) - 1).toNat = i - 1 by omega]; simp [show i - 1 < ls.length by omega]
        rw [lnL_eq ls[i - 1]] at hrow2
        have hP : ls.getD (i - 1) lnz = ls[i - 1] := by simp [List.getD, show i - 1 < ls.length by omega]
        have b5 : decide ((0 : Int) < (i : Int)) = true := by simp; omega
        have hol := or_lex ls[i - 1] ls[i]
        ((repeat' (first
    | (show SQ _ _ _ _ _ _ _ _; first | apply sq_nil | (apply q_move; exact rfl; exact rfl) | (apply q_assign; exact rfl; exact rfl) | (apply q_pick_t; (iterate 3 exact rfl); exact (by first | assumption | exact rfl)) | (apply q_pick_f; (iterate 3 exact rfl); exact (by first | assumption | exact rfl)) | (apply q_fieldAddr; exact rfl; exact rfl; exact (ty rfl); iterate 4 exact rfl) | (apply q_not; exact rfl; exact rfl) | (apply q_add; iterate 3 exact rfl) | (apply q_sub; iterate 3 exact rfl) | (apply q_lss; iterate 3 exact rfl) | (apply q_ixd; (iterate 3 exact rfl); exact (ty rfl); exact rfl; exact (by first | omega | (simp; done) | (simp; omega)); exact (by first | omega | (simp; done) | (simp; omega)); exact (by first | rfl | assumption)) | (apply q_ld1p; exact rfl; exact rfl; exact (ty rfl); exact rfl; exact rfl; exact (by first | rfl | assumption | ((try simp only [Nat.zero_add]); refine List.getElem?_set_self ?_; (try simp only [List.length_set]); assumption)); exact rfl) | (apply q_g; (iterate 3 exact rfl); exact (by assumption)) | (apply q_s; (iterate 3 exact rfl); exact (by assumption); exact rfl) | (apply q_s; iterate 5 exact rfl))
    | (show SQ _ _ _ _ _ _ _ _; (first | (apply q_ldad; exact rfl; exact rfl; exact (ty rfl); exact rfl; exact rfl) | (apply q_alloc; exact rfl; exact (ty rfl); exact rfl; exact rfl) | (apply q_store; exact rfl; exact rfl; exact (ty rfl); exact rfl; exact (by first | rfl | assumption | ((try simp only [Nat.zero_add]); refine List.getElem?_set_self ?_; (try simp only [List.length_set]); assumption)); iterate 3 exact rfl) | (apply q_callU; (iterate 3 exact rfl); exact FzL.of rfl; exact within_ro _ _ _ _)); (try simp only [put, rowsOf, plR, selE, ovr, setH, del, cellsA, splice, isV, spq, if_true, if_false]))
    | (show SQ _ _ _ _ _ _ _ _; apply q_gs; (iterate 4 exact rfl); all_goals intro h)
    | (show DE _ _ _ _ _ _ _ _ _ _ _ _; first | (apply e_move; iterate 3 exact rfl) | (apply e_pick_t; (iterate 3 exact rfl); exact (by first | assumption | exact rfl); exact rfl) | (apply e_fieldAddr; exact rfl; exact rfl; exact (ty rfl); iterate 5 exact rfl) | (apply e_sub; iterate 4 exact rfl) | (apply e_gtr; iterate 4 exact rfl) | (apply e_geq; iterate 4 exact rfl) | (apply e_ixd; (iterate 3 exact rfl); exact (ty rfl); exact rfl; exact (by first | omega | (simp; done) | (simp; omega)); exact (by first | omega | (simp; done) | (simp; omega)); exact (by first | rfl | assumption); exact rfl) | (apply e_ld1d; exact rfl; exact rfl; exact (ty rfl); iterate 3 exact rfl) | (apply e_ld1p; exact rfl; exact rfl; exact (ty rfl); exact rfl; exact rfl; exact (by first | rfl | assumption | ((try simp only [Nat.zero_add]); refine List.getElem?_set_self ?_; (try simp only [List.length_set]); assumption)); exact rfl; exact rfl) | (apply e_g; (iterate 3 exact rfl); exact (by assumption)))
    | (show DE _ _ _ _ _ _ _ _ _ _ _ _; (first | (apply dr_nil; exact trivial) | (apply e_buildn; exact rfl; exact (ty rfl); iterate 8 exact rfl) | (apply e_callU; (iterate 3 exact rfl); exact FzL.of rfl; exact Compare_ro _ _ _; exact rfl) | (apply e_callU; (iterate 3 exact rfl); exact FzL.of rfl; exact Or_ro _ _ _; exact rfl)); (try simp only [put, rowsOf, plR, selE, ovr, setH, del, cellsA, splice, isV, spq, if_true, if_false]))
    | (show AW _ _ _ _ _ _ _ _; first | refine aw_region ?_ | (refine aw_seqk ?_; intro K hK) | refine aw_block ?_ | (apply aw_cond_t; exact rfl; exact rfl) | (apply aw_cond_t; exact rfl; exact (by assumption)) | refine aw_ret ?_ | refine aw_skip ?_ | refine aw_drawE (id := 8) [0, 1, 3, 7, 15, 7, 39, 127, 255, 511, 7, 1031, 4095, 7, 8199, 7, 32775, 122887, 253959, 516103, 7, 1048583, 4194303, 8388607, 16777215, 33554431, 67108863] [0, 0, 0, 0, 1, 0, 0, 0, 0, 1, 0, 1, 1, 0, 1, 0, 0, 0, 0, 1, 0, 1, 1, 1, 1, 0, 0] mixed (by kernel_rfl) ?_ | (apply aw_ite; exact rfl; all_goals intro h))
    | refine thn_n ?_
    | (refine hK _ _ _ ?_; clear hK K)
    | refine thn_r ?_
    | refine inb_n ?_
    | refine inb_r ?_)); all_goals (repeat (clear hK K)))
        all_goals first
          | (refine fin_r (fin_b rfl ?_)
             refine (bkB_false c2 ?_).symm
             simp only [goodL, hD, hP, ← hso]
             clear hso
             simp_all; done)
          | (refine ⟨i + 1, id, ⟨c2, fun j hj => ?_⟩, by omega, ⟨by (repeat (refine ⟨by first | exact lk_i rfl rfl | exact lk_i rfl (by (try dsimp only); first | rfl | omega | (rw [IntWalk.i64_in _ (by omega)]; first | rfl | omega | (push_cast; omega)) | (simp; done) | (simp; omega)) | exact lk_d rfl rfl | exact lk_r rfl rfl rfl, ?_⟩)); exact trivial, by (repeat (refine ⟨by first | exact ⟨rfl, rfl, rfl⟩, ?_⟩)); exact trivial, by rfl, by exact pin_0⟩⟩
             by_cases hjq : j < i
             · exact hg j hjq
             · have : j = i := by omega
               subst this
               simp only [goodL, hD, hP, ← hso]
               clear hso
               simp_all)
    · have b2 : decide ((i : Int) < (ls.length : Int)) = false := by simpa using c2
      ((repeat' (first
    | (show SQ _ _ _ _ _ _ _ _; first | apply sq_nil | (apply q_assign; exact rfl; exact rfl) | (apply q_lss; iterate 3 exact rfl))
    | (show AW _ _ _ _ _ _ _ _; first | refine aw_region ?_ | (refine aw_seqk ?_; intro K hK) | (apply aw_cond_f; exact rfl; exact (by assumption)) | refine aw_ret ?_ | refine aw_exit ?_)
    | refine thn_n ?_
    | (refine hK _ _ _ ?_; clear hK K)
    | refine thn_e ?_
    | refine inb_same ?_
    | (clear hK K; refine hK _ _ _ ?_; clear hK K))); all_goals (repeat (clear hK K)))
      all_goals refine fin_r (fin_b rfl ?_)
      have : i = ls.length := by omega
      subst this
      rw [bkB, allR_true hg, c0]
      simp [c1]
  · have c0 : (inB n 1 12 && decide (ls.length ≤ 32)) = false := by simpa using c0
    have e0 : bkB n ls = false := by rw [bkB, c0]; rfl
    rw [e0]
    by_cases c1 : inB n 1 12 = true
    · have b0 : (!inB n 1 12) = false := by rw [c1]; rfl
      have b1 : decide ((32 : Int) < ((ls.map lnL).length : Int)) = true := by simp [c1] at c0; simp; omega
      refine RO.ofv' Try.func75 Try.ntmps75 rfl (goFn_of Try.func75 rfl (by kernel_rfl)) rfl rfl ?_
      ((repeat' (first
    | (show SQ _ _ _ _ _ _ _ _; first | apply sq_nil | (apply q_move; exact rfl; exact rfl) | (apply q_assign; exact rfl; exact rfl) | (apply q_pick_f; (iterate 3 exact rfl); exact (by first | assumption | exact rfl)) | (apply q_fieldAddr; exact rfl; exact rfl; exact (ty rfl); iterate 4 exact rfl) | (apply q_not; exact rfl; exact rfl) | (apply q_lend; exact rfl; exact rfl; exact (ty rfl); exact rfl) | (apply q_gtr; iterate 3 exact rfl) | (apply q_ld1p; exact rfl; exact rfl; exact (ty rfl); exact rfl; exact rfl; exact (by first | rfl | assumption | ((try simp only [Nat.zero_add]); refine List.getElem?_set_self ?_; (try simp only [List.length_set]); assumption)); exact rfl) | (apply q_g; (iterate 3 exact rfl); exact (by assumption)))
    | (show SQ _ _ _ _ _ _ _ _; (first | (apply q_box; iterate 3 exact rfl) | (apply q_callU; (iterate 3 exact rfl); exact FzL.of rfl; exact within_ro _ _ _ _)); (try simp only [put, rowsOf, plR, selE, ovr, setH, del, cellsA, splice, isV, spq, if_true, if_false]))
    | (show AW _ _ _ _ _ _ _ _; first | refine aw_region ?_ | (refine aw_seqk ?_; intro K hK) | (apply aw_cond_t; exact rfl; exact (by assumption)) | refine aw_ret ?_)
    | refine thn_n ?_
    | (refine hK _ _ _ ?_; clear hK K)
    | refine thn_r ?_)); all_goals (repeat (clear hK K)))
      all_goals exact fin_r (fin_b rfl rfl)
    · have b0 : (!inB n 1 12) = true := by simpa using c1
      refine RO.ofv' Try.func75 Try.ntmps75 rfl (goFn_of Try.func75 rfl (by kernel_rfl)) rfl rfl ?_
      ((repeat' (first
    | (show SQ _ _ _ _ _ _ _ _; first | apply sq_nil | (apply q_move; exact rfl; exact rfl) | (apply q_assign; exact rfl; exact rfl) | (apply q_pick_t; (iterate 3 exact rfl); exact (by first | assumption | exact rfl)) | (apply q_fieldAddr; exact rfl; exact rfl; exact (ty rfl); iterate 4 exact rfl) | (apply q_not; exact rfl; exact rfl) | (apply q_ld1p; exact rfl; exact rfl; exact (ty rfl); exact rfl; exact rfl; exact (by first | rfl | assumption | ((try simp only [Nat.zero_add]); refine List.getElem?_set_self ?_; (try simp only [List.length_set]); assumption)); exact rfl) | (apply q_s; (iterate 3 exact rfl); exact (by assumption); exact rfl))
    | (show SQ _ _ _ _ _ _ _ _; (first | (apply q_box; iterate 3 exact rfl) | (apply q_callU; (iterate 3 exact rfl); exact FzL.of rfl; exact within_ro _ _ _ _)); (try simp only [put, rowsOf, plR, selE, ovr, setH, del, cellsA, splice, isV, spq, if_true, if_false]))
    | (show AW _ _ _ _ _ _ _ _; first | refine aw_region ?_ | (refine aw_seqk ?_; intro K hK) | (apply aw_cond_t; exact rfl; exact rfl) | refine aw_ret ?_)
    | refine thn_n ?_
    | (refine hK _ _ _ ?_; clear hK K)
    | refine thn_r ?_)); all_goals (repeat (clear hK K)))
      all_goals exact fin_r (fin_b rfl rfl)
end Go.Proofs.Ytglfcaioapdiaaa.Bk

namespace Go.Proofs.Ytglfcaioapdiaaa.Bk
open Go Go.RowKit Go.Proofs.Ytglfcaioapdiaaa.Aw
set_option linter.unusedSimpArgs false
set_option linter.unusedVariables false
attribute [local irreducible] AW SQ Step RO RC DE Thn InB
def ixG {α : Type} (p : α → Bool) : List α → Int
  | [] => -1
  | x :: xs => if p x then 0 else if ixG p xs < 0 then -1 else ixG p xs + 1
theorem ixG_any {α : Type} (p : α → Bool) : ∀ xs, decide (0 ≤ ixG p xs) = xs.any p
  | [] => rfl
  | x :: xs => by
    have ih := ixG_any p xs
    simp only [ixG, List.any_cons]
    by_cases h : p x
    · simp [h]
    · simp only [h, Bool.false_or, Bool.false_eq_true, if_false]
      rw [← ih]
      split
      · rename_i h2; simp; omega
      · rename_i h2; simp; omega
theorem ixG_at {α : Type} (p : α → Bool) : ∀ (pre : List α) (x : α) (r : List α), (∀ y ∈ pre, p y = false) → p x = true → ixG p (pre ++ x :: r) = pre.length
  | [], x, r, _, h => by simp [ixG, h]
  | y :: pre, x, r, h, hx => by
    have ih := ixG_at p pre x r (fun z hz => h z (List.mem_cons_of_mem _ hz)) hx
    simp only [List.cons_append, ixG, h y List.mem_cons_self, Bool.false_eq_true, if_false, ih]
    rw [if_neg (by omega)]
    simp
theorem ixG_none {α : Type} (p : α → Bool) : ∀ (xs : List α), (∀ y ∈ xs, p y = false) → ixG p xs = -1
  | [], _ => rfl
  | y :: xs, h => by simp [ixG, h y List.mem_cons_self, ixG_none p xs fun z hz => h z (List.mem_cons_of_mem _ hz)]
theorem ixG_hit {α : Type} {p : α → Bool} {xs : List α} {i : Nat} (hi : i < xs.length) (h : ∀ y ∈ xs.take i, p y = false) (hx : p xs[i] = true) : ixG p xs = i := by
  have := ixG_at p (xs.take i) xs[i] (xs.drop (i + 1)) h hx
  rw [← List.drop_eq_getElem_cons hi, List.take_append_drop] at this
  rw [this]; simp; omega
theorem takeS {α : Type} {p : α → Bool} {xs : List α} {i : Nat} (hi : i < xs.length) (h : ∀ y ∈ xs.take i, p y = false) (hx : p xs[i] = false) : ∀ y ∈ xs.take (i + 1), p y = false := by
  intro y hy
  rw [List.take_succ_eq_append_getElem hi] at hy
  rcases List.mem_append.1 hy with h1 | h1
  · exact h y h1
  · simp at h1; subst h1; exact hx
def linkP (x y : Int) (l : Ln) : Bool := (l.a == x && l.b == y) || (l.a == y && l.b == x)
theorem linkP_iff {x y : Int} {l : Ln} : linkP x y l = true ↔ (l.a = x ∧ l.b = y) ∨ (l.a = y ∧ l.b = x) := by
  simp [linkP]
theorem linkP_symm {x y : Int} {l : Ln} (h : linkP x y l = true) : linkP y x l = true := by
  rw [linkP_iff] at h ⊢; exact h.symm
set_option maxHeartbeats 4000000 in
theorem slIndex_ro (xs : List Int) (rows : List (List AV)) (n : Int) (hrows : rows = xs.map inL) (hn : xs.length ≤ 1048576) (k : Nat) : RO Try.prog 106 [.dsl 1 rows, .v (.int .i64 n)] k (.v (.int .i64 (ixG (fun y => y == n) xs))) [] k := by
  subst hrows
  refine RO.ofv' Try.func106 Try.ntmps106 rfl (goFn_of Try.func106 rfl (by kernel_rfl)) rfl rfl ?_
  ((repeat' (first
    | (show SQ _ _ _ _ _ _ _ _; first | apply sq_nil | (apply q_move; exact rfl; exact rfl) | (apply q_assign; exact rfl; exact rfl) | (apply q_lend; exact rfl; exact rfl; exact (ty rfl); exact rfl))
    | (show AW _ _ _ _ _ _ _ _; first | refine aw_region ?_ | (refine aw_seqk ?_; intro K hK) | refine aw_block ?_)
    | refine thn_n ?_
    | (refine hK _ _ _ ?_; clear hK K))); all_goals (repeat (clear hK K)))
  refine aw_loop (ρ := id) (ι := Nat) (fun i => ([(8, .v (.int .i64 i)), (7, .v (.int .i64 xs.length)), (1, .v (.int .i64 n)), (0, .dsl 1 (xs.map inL))], [], 0))
    (fun i => i ≤ xs.length ∧ ∀ y ∈ xs.take i, (y == n) = false) (fun i => xs.length - i) 0 ⟨Nat.zero_le _, by simp⟩ ⟨⟨lk_i rfl rfl, lk_i rfl (by simp), lk_i rfl rfl, lk_d rfl rfl, trivial⟩, trivial, rfl, pin_0⟩ ?_
  rintro i ⟨hi, hg⟩
  by_cases c2 : i < xs.length
  · have b2 : decide ((i : Int) < (xs.length : Int)) = true := by simpa using c2
    have hrow : (xs.map inL)[((i : Int)).toNat]? = some (inL xs[i]) := by simp [c2]
    rw [inL_eq] at hrow
    have hcm : (n == xs[i]) = (xs[i] == n) := by rw [Bool.eq_iff_iff]; simp only [beq_iff_eq]; exact eq_comm
    ((repeat' (first
    | (show SQ _ _ _ _ _ _ _ _; first | apply sq_nil | (apply q_move; exact rfl; exact rfl) | (apply q_assign; exact rfl; exact rfl) | (apply q_add; iterate 3 exact rfl) | (apply q_eql; iterate 3 exact rfl) | (apply q_lss; iterate 3 exact rfl) | (apply q_ixd; (iterate 3 exact rfl); exact (ty rfl); exact rfl; exact (by first | omega | (simp; done) | (simp; omega)); exact (by first | omega | (simp; done) | (simp; omega)); exact (by first | rfl | assumption)) | (apply q_ld1d; exact rfl; exact rfl; exact (ty rfl); exact rfl; exact rfl))
    | (show AW _ _ _ _ _ _ _ _; first | refine aw_region ?_ | (refine aw_seqk ?_; intro K hK) | refine aw_block ?_ | (apply aw_cond_t; exact rfl; exact (by assumption)) | refine aw_ret ?_ | refine aw_skip ?_ | (apply aw_ite; exact rfl; all_goals intro h))
    | refine thn_n ?_
    | (refine hK _ _ _ ?_; clear hK K)
    | refine thn_r ?_
    | refine inb_n ?_
    | refine inb_r ?_)); all_goals (repeat (clear hK K)))
    all_goals first
      | (refine fin_r (fin_i rfl ?_)
         refine (ixG_hit c2 hg ?_).symm
         rw [← hcm]; assumption)
      | (refine ⟨i + 1, id, ⟨c2, takeS c2 hg ?_⟩, by omega, ⟨by (repeat (refine ⟨by first | exact lk_i rfl rfl | exact lk_i rfl (by (try dsimp only); first | rfl | omega | (rw [IntWalk.i64_in _ (by omega)]; first | rfl | omega | (push_cast; omega)) | (simp; done) | (simp; omega)) | exact lk_d rfl rfl, ?_⟩)); exact trivial, by exact trivial, by rfl, by exact pin_0⟩⟩
         rw [← hcm]; assumption)
  · have b2 : decide ((i : Int) < (xs.length : Int)) = false := by simpa using c2
    ((repeat' (first
    | (show SQ _ _ _ _ _ _ _ _; first | apply sq_nil | (apply q_assign; exact rfl; exact rfl) | (apply q_lss; iterate 3 exact rfl))
    | (show AW _ _ _ _ _ _ _ _; first | refine aw_region ?_ | (refine aw_seqk ?_; intro K hK) | (apply aw_cond_f; exact rfl; exact (by assumption)) | refine aw_ret ?_ | refine aw_exit ?_)
    | refine thn_n ?_
    | (refine hK _ _ _ ?_; clear hK K)
    | refine thn_e ?_
    | refine inb_same ?_
    | (clear hK K; refine hK _ _ _ ?_; clear hK K))); all_goals (repeat (clear hK K)))
    all_goals refine fin_r (fin_i rfl ?_)
    rw [List.take_of_length_le (by omega)] at hg
    exact (ixG_none _ xs hg).symm
set_option maxHeartbeats 4000000 in
theorem slContains_ro (xs : List Int) (rows : List (List AV)) (n : Int) (hrows : rows = xs.map inL) (hn : xs.length ≤ 1048576) (k : Nat) : RO Try.prog 69 [.dsl 1 rows, .v (.int .i64 n)] k (.v (.bool (xs.any fun y => y == n))) [] k := by
  refine RO.ofv' Try.func69 Try.ntmps69 rfl (goFn_of Try.func69 rfl (by kernel_rfl)) rfl rfl ?_
  ((repeat' (first
    | (show SQ _ _ _ _ _ _ _ _; first | apply sq_nil | (apply q_move; exact rfl; exact rfl) | (apply q_assign; exact rfl; exact rfl) | (apply q_geq; iterate 3 exact rfl))
    | (show SQ _ _ _ _ _ _ _ _; (first | (apply q_callU; (iterate 3 exact rfl); exact FzL.of rfl; exact slIndex_ro xs rows n hrows hn _)); (try simp only [put, rowsOf, plR, selE, ovr, setH, del, cellsA, splice, isV, spq, if_true, if_false]))
    | (show AW _ _ _ _ _ _ _ _; first | refine aw_region ?_ | (refine aw_seqk ?_; intro K hK) | refine aw_ret ?_)
    | refine thn_n ?_
    | (refine hK _ _ _ ?_; clear hK K))); all_goals (repeat (clear hK K)))
  all_goals refine fin_r (fin_b rfl ?_)
  exact ixG_any _ xs
end Go.Proofs.Ytglfcaioapdiaaa.Bk

namespace Go.Proofs.Ytglfcaioapdiaaa.Bk
open Go Go.RowKit Go.Proofs.Ytglfcaioapdiaaa.Aw
set_option linter.unusedSimpArgs false
set_option linter.unusedVariables false
attribute [local irreducible] AW SQ Step RO RC DE Thn InB
set_option maxHeartbeats 4000000 in
theorem IndexFuncInt_ro (xs : List Int) (rows : List (List AV)) (f : FuncId) (caps : List AV) (p : Int → Bool) (hcap : idsOkL 0 caps = true) (hz : FzC caps) (hrows : rows = xs.map inL) (hf : ∀ x ∈ xs, ∀ m, RO Try.prog f ((.v (.int .i64 x)) :: caps) m (.v (.bool (p x))) [] m) (hn : xs.length ≤ 1048576) (k : Nat) :
    RO Try.prog 105 [.dsl 1 rows, .fn f caps] k (.v (.int .i64 (ixG p xs))) [] k := by
  subst hrows
  refine RO.ofv' Try.func105 Try.ntmps105 rfl (goFn_of Try.func105 rfl (by kernel_rfl)) rfl rfl ?_
  ((repeat' (first
    | (show SQ _ _ _ _ _ _ _ _; first | apply sq_nil | (apply q_move; exact rfl; exact rfl) | (apply q_assign; exact rfl; exact rfl) | (apply q_lend; exact rfl; exact rfl; exact (ty rfl); exact rfl))
    | (show AW _ _ _ _ _ _ _ _; first | refine aw_region ?_ | (refine aw_seqk ?_; intro K hK) | refine aw_block ?_)
    | refine thn_n ?_
    | (refine hK _ _ _ ?_; clear hK K))); all_goals (repeat (clear hK K)))
  refine aw_loop (ρ := id) (ι := Nat) (fun i => ([(8, .v (.int .i64 i)), (7, .v (.int .i64 xs.length)), (1, .fn f caps), (0, .dsl 1 (xs.map inL))], [], 0))
    (fun i => i ≤ xs.length ∧ ∀ y ∈ xs.take i, p y = false) (fun i => xs.length - i) 0 ⟨Nat.zero_le _, by simp⟩ ⟨⟨lk_i rfl rfl, lk_i rfl (by simp), lk_f rfl (renL_id caps) hcap, lk_d rfl rfl, trivial⟩, trivial, rfl, pin_0⟩ ?_
  rintro i ⟨hi, hp⟩
  by_cases c2 : i < xs.length
  · have b2 : decide ((i : Int) < (xs.length : Int)) = true := by simpa using c2
    have hrow : (xs.map inL)[((i : Int)).toNat]? = some (inL xs[i]) := by simp [c2]
    try rw [inL_eq] at hrow
    have hc := hf xs[i] (List.getElem_mem c2)
    by_cases c3 : p xs[i] = true
    · ((repeat' (first
    | (show SQ _ _ _ _ _ _ _ _; first | apply sq_nil | (apply q_move; exact rfl; exact rfl) | (apply q_assign; exact rfl; exact rfl) | (apply q_lss; iterate 3 exact rfl) | (apply q_ixd; (iterate 3 exact rfl); exact (ty rfl); exact rfl; exact (by first | omega | (simp; done) | (simp; omega)); exact (by first | omega | (simp; done) | (simp; omega)); exact (by first | rfl | assumption)) | (apply q_ld1d; exact rfl; exact rfl; exact (ty rfl); exact rfl; exact rfl))
    | (show SQ _ _ _ _ _ _ _ _; (first | (apply q_callU; (iterate 3 exact rfl); rotate_left; exact hc _; rotate_right; focus ((repeat' (first | exact FzL.nil | exact (by assumption : FzC _) _ | refine FzL.cons ?_ ?_ | exact Fz.of rfl | exact Fz.nil | exact Fz.emp | (apply Fz.fnC; assumption) | (apply Fz.sl2; exact rfl; exact (by first | omega | (simp; done) | (simp; omega)); first | exact rfl | exact dt_full (by first | omega | (simp; done) | (simp; omega)) | assumption) | apply Fz.agg | (apply Fz.ptrL; exact rfl; first | exact rfl | assumption) | apply Fz.fnL)); done))); (try simp only [put, rowsOf, plR, selE, ovr, setH, del, cellsA, splice, isV, spq, if_true, if_false]))
    | (show AW _ _ _ _ _ _ _ _; first | refine aw_region ?_ | (refine aw_seqk ?_; intro K hK) | refine aw_block ?_ | (apply aw_cond_t; exact rfl; exact (by assumption)) | refine aw_ret ?_ | refine aw_skip ?_)
    | refine thn_n ?_
    | (refine hK _ _ _ ?_; clear hK K)
    | refine thn_r ?_
    | refine inb_r ?_)); all_goals (repeat (clear hK K)))
      all_goals refine fin_r (fin_i rfl ?_)
      exact (ixG_hit c2 hp c3).symm
    · have c3 : p xs[i] = false := by simpa using c3
      ((repeat' (first
    | (show SQ _ _ _ _ _ _ _ _; first | apply sq_nil | (apply q_move; exact rfl; exact rfl) | (apply q_assign; exact rfl; exact rfl) | (apply q_add; iterate 3 exact rfl) | (apply q_lss; iterate 3 exact rfl) | (apply q_ixd; (iterate 3 exact rfl); exact (ty rfl); exact rfl; exact (by first | omega | (simp; done) | (simp; omega)); exact (by first | omega | (simp; done) | (simp; omega)); exact (by first | rfl | assumption)) | (apply q_ld1d; exact rfl; exact rfl; exact (ty rfl); exact rfl; exact rfl))
    | (show SQ _ _ _ _ _ _ _ _; (first | (apply q_callU; (iterate 3 exact rfl); rotate_left; exact hc _; rotate_right; focus ((repeat' (first | exact FzL.nil | exact (by assumption : FzC _) _ | refine FzL.cons ?_ ?_ | exact Fz.of rfl | exact Fz.nil | exact Fz.emp | (apply Fz.fnC; assumption) | (apply Fz.sl2; exact rfl; exact (by first | omega | (simp; done) | (simp; omega)); first | exact rfl | exact dt_full (by first | omega | (simp; done) | (simp; omega)) | assumption) | apply Fz.agg | (apply Fz.ptrL; exact rfl; first | exact rfl | assumption) | apply Fz.fnL)); done))); (try simp only [put, rowsOf, plR, selE, ovr, setH, del, cellsA, splice, isV, spq, if_true, if_false]))
    | (show AW _ _ _ _ _ _ _ _; first | refine aw_region ?_ | (refine aw_seqk ?_; intro K hK) | refine aw_block ?_ | (apply aw_cond_t; exact rfl; exact (by assumption)) | (apply aw_cond_f; exact rfl; exact (by assumption)) | refine aw_skip ?_)
    | refine thn_n ?_
    | (refine hK _ _ _ ?_; clear hK K)
    | refine inb_n ?_)); all_goals (repeat (clear hK K)))
      refine ⟨i + 1, id, ⟨c2, takeS c2 hp c3⟩, by omega, ⟨lk_i rfl (by rw [IntWalk.i64_in _ (by omega)]; rfl), lk_i rfl rfl, lk_f rfl (renL_id caps) hcap, lk_d rfl rfl, trivial⟩, trivial, rfl, pin_0⟩
  · have b2 : decide ((i : Int) < (xs.length : Int)) = false := by simpa using c2
    ((repeat' (first
    | (show SQ _ _ _ _ _ _ _ _; first | apply sq_nil | (apply q_assign; exact rfl; exact rfl) | (apply q_lss; iterate 3 exact rfl))
    | (show AW _ _ _ _ _ _ _ _; first | refine aw_region ?_ | (refine aw_seqk ?_; intro K hK) | (apply aw_cond_f; exact rfl; exact (by assumption)) | refine aw_ret ?_ | refine aw_exit ?_)
    | refine thn_n ?_
    | (refine hK _ _ _ ?_; clear hK K)
    | refine thn_e ?_
    | refine inb_same ?_
    | (clear hK K; refine hK _ _ _ ?_; clear hK K))); all_goals (repeat (clear hK K)))
    all_goals refine fin_r (fin_i rfl ?_)
    rw [List.take_of_length_le (by omega)] at hp
    exact (ixG_none p xs hp).symm
set_option maxHeartbeats 4000000 in
theorem ContainsFuncInt_ro (xs : List Int) (rows : List (List AV)) (f : FuncId) (caps : List AV) (p : Int → Bool) (hcap : idsOkL 0 caps = true) (hz : FzC caps) (hrows : rows = xs.map inL) (hf : ∀ x ∈ xs, ∀ m, RO Try.prog f (.v (.int .i64 x) :: caps) m (.v (.bool (p x))) [] m) (hn : xs.length ≤ 1048576) (k : Nat) :
    RO Try.prog 101 [.dsl 1 rows, .fn f caps] k (.v (.bool (xs.any p))) [] k := by
  refine RO.ofv' Try.func101 Try.ntmps101 rfl (goFn_of Try.func101 rfl (by kernel_rfl)) rfl rfl ?_
  ((repeat' (first
    | (show SQ _ _ _ _ _ _ _ _; first | apply sq_nil | (apply q_move; exact rfl; exact rfl) | (apply q_assign; exact rfl; exact rfl) | (apply q_geq; iterate 3 exact rfl))
    | (show SQ _ _ _ _ _ _ _ _; (first | (apply q_callU; (iterate 3 exact rfl); rotate_left; exact IndexFuncInt_ro xs rows f caps p hcap hz hrows hf hn _; rotate_right; focus ((repeat' (first | exact FzL.nil | exact (by assumption : FzC _) _ | refine FzL.cons ?_ ?_ | exact Fz.of rfl | exact Fz.nil | exact Fz.emp | (apply Fz.fnC; assumption) | (apply Fz.sl2; exact rfl; exact (by first | omega | (simp; done) | (simp; omega)); first | exact rfl | exact dt_full (by first | omega | (simp; done) | (simp; omega)) | assumption) | apply Fz.agg | (apply Fz.ptrL; exact rfl; first | exact rfl | assumption) | apply Fz.fnL)); done))); (try simp only [put, rowsOf, plR, selE, ovr, setH, del, cellsA, splice, isV, spq, if_true, if_false]))
    | (show AW _ _ _ _ _ _ _ _; first | refine aw_region ?_ | (refine aw_seqk ?_; intro K hK) | refine aw_ret ?_)
    | refine thn_n ?_
    | (refine hK _ _ _ ?_; clear hK K))); all_goals (repeat (clear hK K)))
  all_goals refine fin_r (fin_b rfl ?_)
  exact ixG_any p xs
set_option maxHeartbeats 4000000 in
theorem awClosure_ro (x lo hi : Int) (k : Nat) : RO Try.prog 102 [.v (.int .i64 x), .dptr [.v (.int .i64 lo)], .dptr [.v (.int .i64 hi)]] k (.v (.bool (!inB x lo hi))) [] k := by
  refine RO.ofv' Try.func102 Try.ntmps102 rfl (goFn_of Try.func102 rfl (by kernel_rfl)) rfl rfl ?_
  ((repeat' (first
    | (show SQ _ _ _ _ _ _ _ _; first | apply sq_nil | (apply q_move; exact rfl; exact rfl) | (apply q_assign; exact rfl; exact rfl) | (apply q_not; exact rfl; exact rfl) | (apply q_ld1d; exact rfl; exact rfl; exact (ty rfl); exact rfl; exact rfl))
    | (show SQ _ _ _ _ _ _ _ _; (first | (apply q_callU; (iterate 3 exact rfl); exact FzL.of rfl; exact within_ro _ _ _ _)); (try simp only [put, rowsOf, plR, selE, ovr, setH, del, cellsA, splice, isV, spq, if_true, if_false]))
    | (show AW _ _ _ _ _ _ _ _; first | refine aw_region ?_ | (refine aw_seqk ?_; intro K hK) | refine aw_ret ?_)
    | refine thn_n ?_
    | (refine hK _ _ _ ?_; clear hK K))); all_goals (repeat (clear hK K)))
  all_goals exact fin_r (fin_b rfl rfl)
set_option maxHeartbeats 4000000 in
theorem allWithin_ro (xs : List Int) (rows : List (List AV)) (lo hi : Int) (hrows : rows = xs.map inL) (hn : xs.length ≤ 1048576) (k : Nat) : RO Try.prog 63 [.dsl 1 rows, .v (.int .i64 lo), .v (.int .i64 hi)] k (.v (.bool (!xs.any fun x => !inB x lo hi))) [] k := by
  have hC := ContainsFuncInt_ro xs rows 102 [.dptr [.v (.int .i64 lo)], .dptr [.v (.int .i64 hi)]] (fun x => !inB x lo hi) rfl (fun H => FzL.of rfl) hrows (fun x _ m => awClosure_ro x lo hi m) hn
  refine RO.ofv' Try.func63 Try.ntmps63 rfl (goFn_of Try.func63 rfl (by kernel_rfl)) rfl rfl ?_
  ((repeat' (first
    | (show SQ _ _ _ _ _ _ _ _; first | apply sq_nil | (apply q_move; exact rfl; exact rfl) | (apply q_assign; exact rfl; exact rfl) | (apply q_not; exact rfl; exact rfl) | (apply q_mkf; exact rfl; exact rfl))
    | (show SQ _ _ _ _ _ _ _ _; (first | (apply q_box; iterate 3 exact rfl) | (apply q_callU; (iterate 3 exact rfl); exact FzL.of rfl; exact hC _)); (try simp only [put, rowsOf, plR, selE, ovr, setH, del, cellsA, splice, isV, spq, if_true, if_false]))
    | (show AW _ _ _ _ _ _ _ _; first | refine aw_region ?_ | (refine aw_seqk ?_; intro K hK) | refine aw_ret ?_)
    | refine thn_n ?_
    | (refine hK _ _ _ ?_; clear hK K))); all_goals (repeat (clear hK K)))
  all_goals exact fin_r (fin_b rfl rfl)
def othV (x : Int) (l : Ln) : Int := if x = l.a then l.b else if x = l.b then l.a else 0
def othB (x : Int) (l : Ln) : Bool := x == l.a || x == l.b
theorem oth_link (x y : Int) (l : Ln) : (othB x l && othV x l == y) = linkP x y l := by
  unfold othB othV linkP
  grind
set_option maxHeartbeats 4000000 in
theorem other_ro (x : Int) (l : Ln) (k : Nat) : RO Try.prog 92 [.agg (lnL l), .v (.int .i64 x)] k (.tup [.v (.int .i64 (othV x l)), .v (.bool (othB x l))]) [] k := by
  have hv : (x == l.a) = true → othV x l = l.b := by intro h; simp at h; simp [othV, h]
  have hv2 : (x == l.a) = false → (x == l.b) = true → othV x l = l.a := by intro h h2; simp at h h2; simp [othV, h, h2]
  have hv3 : (x == l.a) = false → (x == l.b) = false → othV x l = 0 := by intro h h2; simp at h h2; simp [othV, h, h2]
  refine RO.ofp Try.func92 Try.ntmps92 rfl (goFn_of Try.func92 rfl (by kernel_rfl)) rfl rfl rfl ?_
  unfold lnL
  ((repeat' (first
    | (show SQ _ _ _ _ _ _ _ _; first | apply sq_nil | (apply q_move; exact rfl; exact rfl) | (apply q_assign; exact rfl; exact rfl) | (apply q_fieldAddr; exact rfl; exact rfl; exact (ty rfl); iterate 4 exact rfl) | (apply q_eql; iterate 3 exact rfl) | (apply q_ld1p; exact rfl; exact rfl; exact (ty rfl); exact rfl; exact rfl; exact (by first | rfl | assumption | ((try simp only [Nat.zero_add]); refine List.getElem?_set_self ?_; (try simp only [List.length_set]); assumption)); exact rfl))
    | (show SQ _ _ _ _ _ _ _ _; (first | (apply q_box; iterate 3 exact rfl)); (try simp only [put, rowsOf, plR, selE, ovr, setH, del, cellsA, splice, isV, spq, if_true, if_false]))
    | (show AW _ _ _ _ _ _ _ _; first | refine aw_region ?_ | (refine aw_seqk ?_; intro K hK) | refine aw_block ?_ | refine aw_ret ?_ | refine aw_skip ?_ | (apply aw_ite; exact rfl; all_goals intro h))
    | refine thn_n ?_
    | (refine hK _ _ _ ?_; clear hK K)
    | refine thn_r ?_
    | refine inb_n ?_
    | refine inb_r ?_)); all_goals (repeat (clear hK K)))
  all_goals refine fin_r (fin_p (.r2 _ _ _ _ (.tmp _ _ rfl) (.tmp _ _ rfl)) ?_ rfl rfl rfl)
  all_goals simp_all [othB]
end Go.Proofs.Ytglfcaioapdiaaa.Bk

namespace Go.Proofs.Ytglfcaioapdiaaa.Bk
open Go Go.RowKit Go.Proofs.Ytglfcaioapdiaaa.Aw
set_option linter.unusedSimpArgs false
set_option linter.unusedVariables false
attribute [local irreducible] AW SQ Step RO RC DE Thn InB
def boL (b : Bool) : List AV := [.v (.bool b)]
theorem boL_eq (b : Bool) : boL b = [.v (.bool b)] := rfl
def part0 (i : Nat) : List Int := (List.range i).map fun x : Nat => (x : Int)
theorem part0_len (i : Nat) : (part0 i).length = i := by simp [part0]
theorem part0_succ (i : Nat) : part0 (i + 1) = part0 i ++ [(i : Int)] := by simp [part0, List.range_succ]
def relab (x y : Int) (p : List Int) : List Int := p.map fun v => if v = y then x else v
theorem relab_len (x y : Int) (p : List Int) : (relab x y p).length = p.length := by simp [relab]
def partS (ls : List Ln) (may : List Bool) (p : List Int) (i : Nat) : List Int :=
  if may.getD i false then relab (p.getD (ls.getD i lnz).a.toNat 0) (p.getD (ls.getD i lnz).b.toNat 0) p else p
def parts (n : Int) (ls : List Ln) (may : List Bool) : Nat → List Int
  | 0 => part0 n.toNat
  | i + 1 => partS ls may (parts n ls may i) i
theorem parts_len (n : Int) (ls : List Ln) (may : List Bool) : ∀ i, (parts n ls may i).length = n.toNat
  | 0 => part0_len _
  | i + 1 => by
    have := parts_len n ls may i
    simp only [parts, partS]
    split
    · rw [relab_len, this]
    · exact this
def rlF (x y : Int) (p : List Int) (k : Nat) : Int := (relab x y p).getD k 0
theorem rl_yes {x y : Int} {p : List Int} {k : Nat} (h : k < p.length) (hy : p[k] = y) : rlF x y p k = x := by
  simp [rlF, relab, List.getD, h, hy]
theorem rl_no {x y : Int} {p : List Int} {k : Nat} (h : k < p.length) (hy : p[k] ≠ y) : rlF x y p k = p[k] := by
  simp [rlF, relab, List.getD, h, hy]
theorem rl_full (x y : Int) (p : List Int) : (List.range p.length).map (rlF x y p) = relab x y p := by
  refine List.ext_getElem (by simp [relab]) fun i h1 h2 => ?_
  simp only [List.getElem_map, List.getElem_range, rlF, List.getD, List.getElem?_eq_getElem h2, Option.getD_some]
theorem ramp_same {α : Type} {f : Nat → α} {xs : List α} {i : Nat} (h : i < xs.length) (hf : f i = xs[i]) : ramp f xs (i + 1) = ramp f xs i := by
  rw [← ramp_set h, hf]
  have := ramp_get (f := f) h
  obtain ⟨h1, h2⟩ := List.getElem?_eq_some_iff.1 this
  rw [← h2]; exact List.set_getElem_self h1
set_option maxHeartbeats 4000000 in
theorem l25Parts_ro (n : Int) (ls : List Ln) (may : List Bool) (hN : 1 ≤ n ∧ n ≤ 12) (hn : ls.length ≤ 1048576) (hm : may.length = ls.length) (hL : ∀ l ∈ ls, 0 ≤ l.a ∧ l.a < n ∧ 0 ≤ l.b ∧ l.b < n) (k : Nat) :
    RO Try.prog 73 [.dptr (bkL n ls), .dsl 1 (may.map boL)] k (.sl k 0 n.toNat) [(k, ⟨2, 1, true, (parts n ls may ls.length).map inL⟩)] (k + 1) := by
  refine RO.ofm (.sl 0 0 n.toNat) ([(0, ⟨2, 1, true, (parts n ls may ls.length).map inL⟩)]) 1 Try.func73 Try.ntmps73 rfl (goFn_of Try.func73 rfl (by kernel_rfl)) rfl rfl (by simp [renA, renL]) (by simp [shH, renB]) rfl ?_
  unfold bkL
  ((repeat' (first
    | (show SQ _ _ _ _ _ _ _ _; first | apply sq_nil | (apply q_assign; exact rfl; exact rfl))
    | (show SQ _ _ _ _ _ _ _ _; (first | (apply q_build0; exact rfl; exact (ty rfl); exact rfl)); (try simp only [put, rowsOf, plR, selE, ovr, setH, del, cellsA, splice, isV, spq, if_true, if_false]))
    | (show AW _ _ _ _ _ _ _ _; first | refine aw_region ?_ | (refine aw_seqk ?_; intro K hK) | refine aw_block ?_)
    | refine thn_n ?_
    | (refine hK _ _ _ ?_; clear hK K))); all_goals (repeat (clear hK K)))
  refine aw_loop (ρ := id) (ι := Nat) (fun i => ([(6, .v (.int .i64 i)), (5, .sl 0 0 i), (1, .dsl 1 (may.map boL)), (0, .dptr [.v (.int .i64 n), .dsl 4 (ls.map lnL)])], [(0, ⟨2, 1, true, (part0 i).map inL⟩)], 1))
    (fun i => (i : Int) ≤ n) (fun i => n.toNat - i) 0 (by omega) ⟨by (repeat (refine ⟨by first | exact lk_i rfl rfl | exact lk_d rfl rfl | exact lk_s rfl rfl rfl rfl | exact lk_p rfl rfl, ?_⟩)); exact trivial, by (repeat (refine ⟨by first | exact ⟨rfl, rfl, rfl⟩, ?_⟩)); exact trivial, by rfl, by exact pin_0⟩ ?_
  intro i hi
  have hml : ((part0 i).map inL).length = i := by rw [List.length_map, part0_len]
  by_cases c2 : (i : Int) < n
  · have b2 : decide ((i : Int) < n) = true := by simpa using c2
    have hw3 : IntKind.i64.wrap ((i : Int) + 1) = ((i + 1 : Nat) : Int) := by rw [IntWalk.i64_in _ (by omega)]; omega
    ((repeat' (first
    | (show SQ _ _ _ _ _ _ _ _; first | apply sq_nil | (apply q_move; exact rfl; exact rfl) | (apply q_assign; exact rfl; exact rfl) | (apply q_fieldAddr; exact rfl; exact rfl; exact (ty rfl); iterate 4 exact rfl) | (apply q_nilc; iterate 3 exact rfl) | (apply q_add; iterate 3 exact rfl) | (apply q_lss; iterate 3 exact rfl) | (apply q_ld1d; exact rfl; exact rfl; exact (ty rfl); exact rfl; exact rfl))
    | (show SQ _ _ _ _ _ _ _ _; (first | (apply q_buildn; exact rfl; exact (ty rfl); iterate 7 exact rfl) | (apply q_apo_s; (iterate 3 exact rfl); exact (ty rfl); exact rfl; exact rfl; exact (by first | omega | (simp; done) | (simp; omega)); exact (by first | exact List.take_of_length_le (by first | omega | (simp; done) | (simp; omega)) | rfl); exact (ty rfl); exact rfl; exact rfl; exact (by first | omega | (simp; done) | (simp; omega)); exact (by first | exact dt_full (by first | omega | (simp; done) | (simp; omega)) | assumption | rfl); exact rfl; exact (by first | omega | (simp; done) | (simp; omega)); exact (by first | omega | (simp; done) | (simp; omega)); exact (by first | assumption | exact rfl))); (try simp only [put, rowsOf, plR, selE, ovr, setH, del, cellsA, splice, isV, spq, if_true, if_false]))
    | (show AW _ _ _ _ _ _ _ _; first | refine aw_region ?_ | (refine aw_seqk ?_; intro K hK) | refine aw_block ?_ | (apply aw_cond_t; exact rfl; exact (by assumption)) | refine aw_skip ?_)
    | refine thn_n ?_
    | (refine hK _ _ _ ?_; clear hK K)
    | refine inb_n ?_)); all_goals (repeat (clear hK K)))
    all_goals (refine ⟨i + 1, fun j => [2].getD j 0, by omega, by omega, ?_⟩; (try dsimp only); rw [part0_succ, List.map_append, ← hw3]; exact ⟨by (repeat (refine ⟨by first | exact lk_i rfl rfl | exact lk_d rfl rfl | exact lk_s rfl rfl rfl rfl | exact lk_p rfl rfl, ?_⟩)); exact trivial, by (repeat (refine ⟨by first | exact ⟨rfl, rfl, rfl⟩, ?_⟩)); exact trivial, by rfl, by exact pin_0⟩)
  have b2 : decide ((i : Int) < n) = false := by simpa using c2
  have hin : i = n.toNat := by omega
  ((repeat' (first
    | (show SQ _ _ _ _ _ _ _ _; first | apply sq_nil | (apply q_move; exact rfl; exact rfl) | (apply q_assign; exact rfl; exact rfl) | (apply q_fieldAddr; exact rfl; exact rfl; exact (ty rfl); iterate 4 exact rfl) | (apply q_nilc; iterate 3 exact rfl) | (apply q_lss; iterate 3 exact rfl) | (apply q_ld1d; exact rfl; exact rfl; exact (ty rfl); exact rfl; exact rfl))
    | (show AW _ _ _ _ _ _ _ _; first | refine aw_region ?_ | (refine aw_seqk ?_; intro K hK) | refine aw_block ?_ | (apply aw_cond_f; exact rfl; exact (by assumption)) | refine aw_exit ?_)
    | refine thn_n ?_
    | (refine hK _ _ _ ?_; clear hK K)
    | refine thn_e ?_
    | refine inb_same ?_
    | (clear hK K; refine hK _ _ _ ?_; clear hK K))); all_goals (repeat (clear hK K)))
  refine aw_loop (ρ := id) (ι := Nat) (fun i => ([(7, .v (.int .i64 i)), (5, .sl 0 0 n.toNat), (1, .dsl 1 (may.map boL)), (0, .dptr [.v (.int .i64 n), .dsl 4 (ls.map lnL)])], [(0, ⟨2, 1, true, (parts n ls may i).map inL⟩)], 1))
    (fun i => i ≤ ls.length) (fun i => ls.length - i) 0 (Nat.zero_le _) (by subst hin; exact ⟨by (repeat (refine ⟨by first | exact lk_i rfl rfl | exact lk_d rfl rfl | exact lk_s rfl rfl rfl rfl | exact lk_p rfl rfl, ?_⟩)); exact trivial, by (repeat (refine ⟨by first | exact ⟨rfl, rfl, rfl⟩, ?_⟩)); exact trivial, by rfl, by exact pin_0⟩) ?_
  clear hml b2 hin c2 hi
  clear i
  intro i hi
  have hpl := parts_len n ls may i
  by_cases c2 : i < ls.length
  · have b2 : decide ((i : Int) < ((ls.map lnL).length : Int)) = true := by simpa using c2
    have c3 : i < may.length := by omega
    have hrow : (may.map boL)[((i : Int)).toNat]? = some (boL may[i]) := by simp [c3]
    rw [boL_eq] at hrow
    have hrow2 : (ls.map lnL)[((i : Int)).toNat]? = some (lnL ls[i]) := by simp [c2]
    rw [lnL_eq] at hrow2
    obtain ⟨a0, a1, d0, d1⟩ := hL ls[i] (List.getElem_mem c2)
    have a2 : ls[i].a.toNat < (parts n ls may i).length := by omega
    have d2 : ls[i].b.toNat < (parts n ls may i).length := by omega
    have hra : ((parts n ls may i).map inL)[0 + ls[i].a.toNat]? = some (inL (parts n ls may i)[ls[i].a.toNat]) := by simp [a2]
    have hrb : ((parts n ls may i).map inL)[0 + ls[i].b.toNat]? = some (inL (parts n ls may i)[ls[i].b.toNat]) := by simp [d2]
    rw [inL_eq] at hra hrb
    have hw3 : IntKind.i64.wrap ((i : Int) + 1) = ((i + 1 : Nat) : Int) := by rw [IntWalk.i64_in _ (by omega)]; omega
    cases c4 : may[i] with
    | false =>
      have b4 : (!may[i]) = true := by rw [c4]; rfl
      have e1 : parts n ls may (i + 1) = parts n ls may i := by simp [parts, partS, List.getD, c3, c4]
      ((repeat' (first
    | (show SQ _ _ _ _ _ _ _ _; first | apply sq_nil | (apply q_move; exact rfl; exact rfl) | (apply q_assign; exact rfl; exact rfl) | (apply q_fieldAddr; exact rfl; exact rfl; exact (ty rfl); iterate 4 exact rfl) | (apply q_nilc; iterate 3 exact rfl) | (apply q_not; exact rfl; exact rfl) | (apply q_lend; exact rfl; exact rfl; exact (ty rfl); exact rfl) | (apply q_add; iterate 3 exact rfl) | (apply q_lss; iterate 3 exact rfl) | (apply q_ixd; (iterate 3 exact rfl); exact (ty rfl); exact rfl; exact (by first | omega | (simp; done) | (simp; omega)); exact (by first | omega | (simp; done) | (simp; omega)); exact (by first | rfl | assumption)) | (apply q_ld1d; exact rfl; exact rfl; exact (ty rfl); exact rfl; exact rfl))
    | (show AW _ _ _ _ _ _ _ _; first | refine aw_region ?_ | (refine aw_seqk ?_; intro K hK) | refine aw_block ?_ | (apply aw_cond_t; exact rfl; exact (by assumption)) | refine aw_exit ?_ | refine aw_skip ?_)
    | refine thn_n ?_
    | (refine hK _ _ _ ?_; clear hK K)
    | refine thn_e ?_
    | refine inb_same ?_
    | (clear hK K; refine hK _ _ _ ?_; clear hK K))); all_goals (repeat (clear hK K)))
      all_goals (refine ⟨i + 1, id, c2, by omega, ?_⟩; (try dsimp only); rw [e1, ← hw3]; exact ⟨by (repeat (refine ⟨by first | exact lk_i rfl rfl | exact lk_d rfl rfl | exact lk_s rfl rfl rfl rfl | exact lk_p rfl rfl, ?_⟩)); exact trivial, by (repeat (refine ⟨by first | exact ⟨rfl, rfl, rfl⟩, ?_⟩)); exact trivial, by rfl, by exact pin_0⟩)
    | true =>
      have b4 : (!may[i]) = false := by rw [c4]; rfl
      have e1 : parts n ls may (i + 1) = relab (parts n ls may i)[ls[i].a.toNat] (parts n ls may i)[ls[i].b.toNat] (parts n ls may i) := by simp [parts, partS, List.getD, c2, c3, c4, a2, d2]
      ((repeat' (first
    | (show SQ _ _ _ _ _ _ _ _; first | apply sq_nil | (apply q_move; exact rfl; exact rfl) | (apply q_assign; exact rfl; exact rfl) | (apply q_fieldAddr; exact rfl; exact rfl; exact (ty rfl); iterate 4 exact rfl) | (apply q_nilc; iterate 3 exact rfl) | (apply q_not; exact rfl; exact rfl) | (apply q_lend; exact rfl; exact rfl; exact (ty rfl); exact rfl) | (apply q_lss; iterate 3 exact rfl) | (apply q_ixd; (iterate 3 exact rfl); exact (ty rfl); exact rfl; exact (by first | omega | (simp; done) | (simp; omega)); exact (by first | omega | (simp; done) | (simp; omega)); exact (by first | rfl | assumption)) | (apply q_ixl; (iterate 3 exact rfl); exact (ty rfl); (iterate 3 exact rfl); exact (by first | omega | (simp; done) | (simp; omega)); exact (by first | omega | (simp; done) | (simp; omega))) | (apply q_ld1d; exact rfl; exact rfl; exact (ty rfl); exact rfl; exact rfl) | (apply q_ld1p; exact rfl; exact rfl; exact (ty rfl); exact rfl; exact rfl; exact (by first | rfl | assumption | ((try simp only [Nat.zero_add]); refine List.getElem?_set_self ?_; (try simp only [List.length_set]); assumption)); exact rfl))
    | (show AW _ _ _ _ _ _ _ _; first | refine aw_region ?_ | (refine aw_seqk ?_; intro K hK) | refine aw_block ?_ | (apply aw_cond_t; exact rfl; exact (by assumption)) | (apply aw_cond_f; exact rfl; exact (by assumption)) | refine aw_skip ?_)
    | refine thn_n ?_
    | (refine hK _ _ _ ?_; clear hK K))); all_goals (repeat (clear hK K)))
      generalize parts n ls may i = p at *
      generalize hx : p[ls[i].a.toNat] = x at *
      generalize hy : p[ls[i].b.toNat] = y at *
      refine aw_loop (ρ := id) (ι := Nat) (fun q => ([(10, .v (.int .i64 q)), (9, .v (.int .i64 y)), (8, .v (.int .i64 x)), (7, .v (.int .i64 i)), (5, .sl 0 0 n.toNat), (1, .dsl 1 (may.map boL)), (0, .dptr [.v (.int .i64 n), .dsl 4 (ls.map lnL)])], [(0, ⟨2, 1, true, (ramp (rlF x y p) p q).map inL⟩)], 1))
        (fun q => q ≤ n.toNat) (fun q => n.toNat - q) 0 (Nat.zero_le _) ⟨by (repeat (refine ⟨by first | exact lk_i rfl rfl | exact lk_d rfl rfl | exact lk_s rfl rfl rfl rfl | exact lk_p rfl rfl, ?_⟩)); exact trivial, by (repeat (refine ⟨by first | exact ⟨rfl, rfl, rfl⟩, ?_⟩)); exact trivial, by rfl, by exact pin_0⟩ ?_
      intro q hq
      by_cases c5 : q < n.toNat
      · have b5 : decide ((q : Int) < (n.toNat : Int)) = true := by simp only [decide_eq_true_eq]; omega
        have c6 : q < p.length := by omega
        have hr2 : ((ramp (rlF x y p) p q).map inL)[0 + ((q : Int)).toNat]? = some (inL p[q]) := by
          rw [List.getElem?_map, show 0 + ((q : Int)).toNat = q by omega, ramp_get c6]; rfl
        rw [inL_eq] at hr2
        have hw4 : IntKind.i64.wrap ((q : Int) + 1) = ((q + 1 : Nat) : Int) := by rw [IntWalk.i64_in _ (by omega)]; omega
        ((repeat' (first
    | (show SQ _ _ _ _ _ _ _ _; first | apply sq_nil | (apply q_move; exact rfl; exact rfl) | (apply q_assign; exact rfl; exact rfl) | (apply q_lenl; exact rfl; exact rfl; exact (ty rfl); exact rfl) | (apply q_add; iterate 3 exact rfl) | (apply q_eql; iterate 3 exact rfl) | (apply q_lss; iterate 3 exact rfl) | (apply q_ixl; (iterate 3 exact rfl); exact (ty rfl); (iterate 3 exact rfl); exact (by first | omega | (simp; done) | (simp; omega)); exact (by first | omega | (simp; done) | (simp; omega))) | (apply q_ld1p; exact rfl; exact rfl; exact (ty rfl); exact rfl; exact rfl; exact (by first | rfl | assumption | ((try simp only [Nat.zero_add]); refine List.getElem?_set_self ?_; (try simp only [List.length_set]); assumption)); exact rfl))
    | (show SQ _ _ _ _ _ _ _ _; (first | (apply q_store; exact rfl; exact rfl; exact (ty rfl); exact rfl; exact (by first | rfl | assumption | ((try simp only [Nat.zero_add]); refine List.getElem?_set_self ?_; (try simp only [List.length_set]); assumption)); iterate 3 exact rfl)); (try simp only [put, rowsOf, plR, selE, ovr, setH, del, cellsA, splice, isV, spq, if_true, if_false]))
    | (show AW _ _ _ _ _ _ _ _; first | refine aw_region ?_ | (refine aw_seqk ?_; intro K hK) | refine aw_block ?_ | (apply aw_cond_t; exact rfl; exact (by assumption)) | refine aw_skip ?_ | (apply aw_ite; exact rfl; all_goals intro h))
    | refine thn_n ?_
    | (refine hK _ _ _ ?_; clear hK K)
    | refine inb_n ?_)); all_goals (repeat (clear hK K)))
        · have e2 := rl_yes (x := x) c6 (by simpa using ‹(p[q] == y) = true›)
          refine ⟨q + 1, id, c5, by omega, ?_⟩
          (try dsimp only); rw [← ramp_set c6, e2, List.map_set, ← hw4]
          exact ⟨by (repeat (refine ⟨by first | exact lk_i rfl rfl | exact lk_d rfl rfl | exact lk_s rfl rfl rfl rfl | exact lk_p rfl rfl, ?_⟩)); exact trivial, by (repeat (refine ⟨by first | exact ⟨rfl, rfl, rfl⟩, ?_⟩)); exact trivial, by rfl, by exact pin_0⟩
        · have e2 := ramp_same (f := rlF x y p) c6 (rl_no (x := x) c6 (by simpa using ‹(p[q] == y) = false›))
          refine ⟨q + 1, id, c5, by omega, ?_⟩
          (try dsimp only); rw [e2, ← hw4]
          exact ⟨by (repeat (refine ⟨by first | exact lk_i rfl rfl | exact lk_d rfl rfl | exact lk_s rfl rfl rfl rfl | exact lk_p rfl rfl, ?_⟩)); exact trivial, by (repeat (refine ⟨by first | exact ⟨rfl, rfl, rfl⟩, ?_⟩)); exact trivial, by rfl, by exact pin_0⟩
      · have b5 : decide ((q : Int) < (n.toNat : Int)) = false := by simp only [decide_eq_false_iff_not]; omega
        have e2 : ramp (rlF x y p) p q = relab x y p := by
          rw [show q = p.length by omega, ramp_full, rl_full]
        ((repeat' (first
    | (show SQ _ _ _ _ _ _ _ _; first | apply sq_nil | (apply q_move; exact rfl; exact rfl) | (apply q_assign; exact rfl; exact rfl) | (apply q_lenl; exact rfl; exact rfl; exact (ty rfl); exact rfl) | (apply q_add; iterate 3 exact rfl) | (apply q_lss; iterate 3 exact rfl))
    | (show AW _ _ _ _ _ _ _ _; first | refine aw_region ?_ | (refine aw_seqk ?_; intro K hK) | (apply aw_cond_f; exact rfl; exact (by assumption)) | refine aw_exit ?_)
    | refine thn_n ?_
    | (refine hK _ _ _ ?_; clear hK K)
    | refine thn_e ?_
    | refine inb_same ?_
    | refine inb_n ?_
    | (clear hK K; refine hK _ _ _ ?_; clear hK K))); all_goals (repeat (clear hK K)))
        all_goals (refine ⟨i + 1, id, c2, by omega, ?_⟩; (try dsimp only); rw [e1, ← e2, ← hw3]; exact ⟨by (repeat (refine ⟨by first | exact lk_i rfl rfl | exact lk_d rfl rfl | exact lk_s rfl rfl rfl rfl | exact lk_p rfl rfl, ?_⟩)); exact trivial, by (repeat (refine ⟨by first | exact ⟨rfl, rfl, rfl⟩, ?_⟩)); exact trivial, by rfl, by exact pin_0⟩)
  · have b2 : decide ((i : Int) < ((ls.map lnL).length : Int)) = false := by simpa using c2
    obtain rfl : i = ls.length := by omega
    ((repeat' (first
    | (show SQ _ _ _ _ _ _ _ _; first | apply sq_nil | (apply q_move; exact rfl; exact rfl) | (apply q_assign; exact rfl; exact rfl) | (apply q_fieldAddr; exact rfl; exact rfl; exact (ty rfl); iterate 4 exact rfl) | (apply q_nilc; iterate 3 exact rfl) | (apply q_lend; exact rfl; exact rfl; exact (ty rfl); exact rfl) | (apply q_lss; iterate 3 exact rfl) | (apply q_ld1d; exact rfl; exact rfl; exact (ty rfl); exact rfl; exact rfl))
    | (show AW _ _ _ _ _ _ _ _; first | refine aw_region ?_ | (refine aw_seqk ?_; intro K hK) | (apply aw_cond_f; exact rfl; exact (by assumption)) | refine aw_ret ?_ | refine aw_exit ?_)
    | refine thn_n ?_
    | (refine hK _ _ _ ?_; clear hK K)
    | refine thn_e ?_
    | refine inb_same ?_
    | (clear hK K; refine hK _ _ _ ?_; clear hK K))); all_goals (repeat (clear hK K)))
    all_goals exact fin_r (fin_m rfl rfl _ _ rfl rfl)
end Go.Proofs.Ytglfcaioapdiaaa.Bk

namespace Go.Proofs.Ytglfcaioapdiaaa.Bk
open Go Go.RowKit Go.Proofs.Ytglfcaioapdiaaa.Aw
set_option linter.unusedSimpArgs false
set_option linter.unusedVariables false
attribute [local irreducible] AW SQ Step RO RC DE Thn InB
theorem pigeon : ∀ (m : Nat) (l : List Int), l.Nodup → (∀ x ∈ l, 0 ≤ x ∧ x < (m : Int)) → l.length ≤ m
  | 0, [], _, _ => Nat.le_refl _
  | 0, x :: l, _, h => by have := h x List.mem_cons_self; omega
  | m + 1, l, hd, h => by
    have ih := pigeon m (l.erase (m : Int)) (hd.erase _) (fun x hx => by
      have h1 := (hd.mem_erase_iff).1 hx
      have h2 := h x h1.2
      have h3 := h1.1
      refine ⟨h2.1, ?_⟩
      have := h2.2
      omega)
    have := List.length_erase (a := (m : Int)) (l := l)
    split at this <;> omega
def GoodN (n : Int) (nodes : List Int) : Prop := nodes.Nodup ∧ ∀ x ∈ nodes, 0 ≤ x ∧ x < n
theorem GoodN.le {n : Int} {nodes : List Int} (h0 : 0 ≤ n) (h : GoodN n nodes) : nodes.length ≤ n.toNat :=
  pigeon _ _ h.1 fun x hx => by have := h.2 x hx; omega
def stepN (ls : List Ln) (cur : Int) (nodes : List Int) (x : Int) : List Int :=
  if othB cur (ls.getD x.toNat lnz) && !(nodes.any fun y => y == othV cur (ls.getD x.toNat lnz)) then nodes ++ [othV cur (ls.getD x.toNat lnz)] else nodes
def rIn (ls : List Ln) (cur : Int) (ix : List Int) (nodes : List Int) (i : Nat) : List Int := (ix.take i).foldl (stepN ls cur) nodes
theorem rIn_succ {ls : List Ln} {cur : Int} {ix nodes : List Int} {i : Nat} (h : i < ix.length) : rIn ls cur ix nodes (i + 1) = stepN ls cur (rIn ls cur ix nodes i) ix[i] := by
  rw [rIn, List.take_succ_eq_append_getElem h, List.foldl_append]; rfl
def reachF (ls : List Ln) (ix : List Int) : Nat → Nat → List Int → List Int
  | 0, _, nodes => nodes
  | f + 1, k, nodes => if k < nodes.length then reachF ls ix f (k + 1) (rIn ls (nodes.getD k 0) ix nodes ix.length) else nodes
def reachV (n : Int) (ls : List Ln) (ix : List Int) (frm : Int) : List Int := reachF ls ix n.toNat 0 [frm]
theorem stepN_get {ls : List Ln} {cur x c : Int} {nodes : List Int} {k : Nat} (h : nodes[k]? = some c) : (stepN ls cur nodes x)[k]? = some c := by
  unfold stepN
  split
  · rw [List.getElem?_append_left (List.getElem?_eq_some_iff.1 h).1, h]
  · exact h
theorem foldN_get {ls : List Ln} {cur c : Int} {k : Nat} : ∀ (ix nodes : List Int), nodes[k]? = some c → (ix.foldl (stepN ls cur) nodes)[k]? = some c
  | [], _, h => h
  | x :: ix, nodes, h => foldN_get ix _ (stepN_get h)
theorem othV_in {n x : Int} {l : Ln} (hL : 0 ≤ l.a ∧ l.a < n ∧ 0 ≤ l.b ∧ l.b < n) (h : othB x l = true) : 0 ≤ othV x l ∧ othV x l < n := by
  simp only [othB, Bool.or_eq_true, beq_iff_eq] at h
  unfold othV
  grind
theorem stepN_good {n : Int} {ls : List Ln} {cur x : Int} {nodes : List Int} (hL : ∀ l ∈ ls, 0 ≤ l.a ∧ l.a < n ∧ 0 ≤ l.b ∧ l.b < n) (hx : x.toNat < ls.length) (h : GoodN n nodes) : GoodN n (stepN ls cur nodes x) := by
  unfold stepN
  split
  · rename_i hc
    simp only [Bool.and_eq_true, Bool.not_eq_true', List.any_eq_false, beq_iff_eq] at hc
    have hl : ls.getD x.toNat lnz ∈ ls := by simp [List.getD, hx]
    have := othV_in (hL _ hl) hc.1
    refine ⟨List.nodup_append.2 ⟨h.1, by simp, fun a ha b hb => ?_⟩, fun y hy => ?_⟩
    · simp at hb; subst hb; intro e; exact hc.2 a ha e
    · rcases List.mem_append.1 hy with h1 | h1
      · exact h.2 y h1
      · simp at h1; subst h1; exact this
  · exact h
theorem rIn_good {n : Int} {ls : List Ln} {cur : Int} {ix nodes : List Int} (hL : ∀ l ∈ ls, 0 ≤ l.a ∧ l.a < n ∧ 0 ≤ l.b ∧ l.b < n) (hix : ∀ x ∈ ix, 0 ≤ x ∧ x < ls.length) (h : GoodN n nodes) : ∀ i, i ≤ ix.length → GoodN n (rIn ls cur ix nodes i)
  | 0, _ => by simpa [rIn] using h
  | i + 1, hi => by
    rw [rIn_succ (by omega)]
    have := hix ix[i] (List.getElem_mem _)
    exact stepN_good hL (by omega) (rIn_good hL hix h i (by omega))
set_option maxHeartbeats 4000000 in
theorem reached_ro (n : Int) (ls : List Ln) (ix : List Int) (frm : Int) (hN : 1 ≤ n ∧ n ≤ 12) (hn : ls.length ≤ 1048576) (hr : ix.length ≤ 1048576) (hL : ∀ l ∈ ls, 0 ≤ l.a ∧ l.a < n ∧ 0 ≤ l.b ∧ l.b < n) (hix : ∀ x ∈ ix, 0 ≤ x ∧ x < ls.length) (hf : 0 ≤ frm ∧ frm < n) (k : Nat) :
    RO Try.prog 68 [.agg (bkL n ls), .dsl 1 (ix.map inL), .v (.int .i64 frm)] k (.sl k 0 (reachV n ls ix frm).length) [(k, ⟨2, 1, true, (reachV n ls ix frm).map inL⟩)] (k + 1) := by
  refine RO.ofm (.sl 0 0 (reachV n ls ix frm).length) ([(0, ⟨2, 1, true, (reachV n ls ix frm).map inL⟩)]) 1 Try.func68 Try.ntmps68 rfl (goFn_of Try.func68 rfl (by kernel_rfl)) rfl rfl (by simp [renA, renL]) (by simp [shH, renB]) rfl ?_
  unfold bkL
  ((repeat' (first
    | (show SQ _ _ _ _ _ _ _ _; first | apply sq_nil | (apply q_move; exact rfl; exact rfl) | (apply q_assign; exact rfl; exact rfl))
    | (show SQ _ _ _ _ _ _ _ _; (first | (apply q_box; iterate 3 exact rfl) | (apply q_buildn; exact rfl; exact (ty rfl); iterate 7 exact rfl)); (try simp only [put, rowsOf, plR, selE, ovr, setH, del, cellsA, splice, isV, spq, if_true, if_false]))
    | (show AW _ _ _ _ _ _ _ _; first | refine aw_region ?_ | (refine aw_seqk ?_; intro K hK) | refine aw_block ?_)
    | refine thn_n ?_
    | (refine hK _ _ _ ?_; clear hK K))); all_goals (repeat (clear hK K)))
  refine aw_loop (ρ := id) (ι := Nat × List Int) (fun p => ([(8, .v (.int .i64 p.1)), (7, .sl 1 0 p.2.length), (3, .ptr 0 0 0), (1, .dsl 1 (ix.map inL))], [(0, ⟨31, 2, false, [[.v (.int .i64 n), .dsl 4 (ls.map lnL)]]⟩), (1, ⟨2, 1, true, p.2.map inL⟩)], 2))
    (fun p => p.1 ≤ p.2.length ∧ GoodN n p.2 ∧ reachF ls ix (n.toNat - p.1) p.1 p.2 = reachV n ls ix frm) (fun p => n.toNat - p.1) (0, [frm])
    ⟨Nat.zero_le _, ⟨by simp, fun x hx => by simp at hx; subst hx; exact hf⟩, rfl⟩ ⟨by (repeat (refine ⟨by first | exact lk_i rfl rfl | exact lk_d rfl rfl | exact lk_r rfl rfl rfl | exact lk_s rfl rfl rfl rfl, ?_⟩)); exact trivial, by (repeat (refine ⟨by first | exact ⟨rfl, rfl, rfl⟩, ?_⟩)); exact trivial, by rfl, by exact pin_0⟩ ?_
  rintro ⟨q, nodes⟩ ⟨hq, hg, hR⟩
  dsimp only at hq hg hR
  have hle := hg.le (by omega)
  by_cases c1 : q < nodes.length
  · have b1 : decide ((q : Int) < (nodes.length : Int)) = true := by simpa using c1
    obtain ⟨f, hfu⟩ : ∃ f, n.toNat - q = f + 1 := ⟨n.toNat - q - 1, by omega⟩
    rw [hfu, reachF, if_pos c1] at hR
    have hcur : nodes[q]? = some (nodes.getD q 0) := by simp [List.getD, c1]
    generalize nodes.getD q 0 = cur at hR hcur
    ((repeat' (first
    | (show SQ _ _ _ _ _ _ _ _; first | apply sq_nil | (apply q_move; exact rfl; exact rfl) | (apply q_lend; exact rfl; exact rfl; exact (ty rfl); exact rfl) | (apply q_lenl; exact rfl; exact rfl; exact (ty rfl); exact rfl) | (apply q_lss; iterate 3 exact rfl))
    | (show AW _ _ _ _ _ _ _ _; first | refine aw_region ?_ | (refine aw_seqk ?_; intro K hK) | refine aw_block ?_ | (apply aw_cond_t; exact rfl; exact (by assumption)) | refine aw_skip ?_)
    | refine thn_n ?_
    | (refine hK _ _ _ ?_; clear hK K))); all_goals (repeat (clear hK K)))
    refine aw_loop (ρ := id) (ι := Nat) (fun i => ([(23, .v (.int .i64 i)), (22, .v (.int .i64 (ix.length : Nat))), (21, .dsl 1 (ix.map inL)), (8, .v (.int .i64 q)), (7, .sl 1 0 (rIn ls cur ix nodes i).length), (3, .ptr 0 0 0), (1, .dsl 1 (ix.map inL))], [(0, ⟨31, 2, false, [[.v (.int .i64 n), .dsl 4 (ls.map lnL)]]⟩), (1, ⟨2, 1, true, (rIn ls cur ix nodes i).map inL⟩)], 2))
      (fun i => i ≤ ix.length) (fun i => ix.length - i) 0 (Nat.zero_le _) ⟨by (repeat (refine ⟨by first | exact lk_i rfl rfl | exact lk_i rfl (by (try dsimp only); first | rfl | omega | (rw [IntWalk.i64_in _ (by omega)]; first | rfl | omega | (push_cast; omega)) | (simp; done) | (simp; omega)) | exact lk_d rfl rfl | exact lk_r rfl rfl rfl | exact lk_s rfl rfl rfl rfl, ?_⟩)); exact trivial, by (repeat (refine ⟨by first | exact ⟨rfl, rfl, rfl⟩, ?_⟩)); exact trivial, by rfl, by exact pin_0⟩ ?_
    intro i hi
    have hgi := rIn_good (cur := cur) hL hix hg i hi
    have hli := hgi.le (by omega)
    have hcu : (rIn ls cur ix nodes i)[q]? = some cur := foldN_get _ _ hcur
    by_cases c2 : i < ix.length
    · have b2 : decide ((i : Int) < (ix.length : Int)) = true := by simpa using c2
      have hrow : (ix.map inL)[((i : Int)).toNat]? = some (inL ix[i]) := by simp [c2]
      rw [inL_eq] at hrow
      obtain ⟨x0, x1⟩ := hix ix[i] (List.getElem_mem c2)
      have x2 : ix[i].toNat < ls.length := by omega
      have hrow2 : (ls.map lnL)[(ix[i]).toNat]? = some (lnL ls[ix[i].toNat]) := by simp [x2]
      rw [lnL_eq] at hrow2
      have hD : ls.getD ix[i].toNat lnz = ls[ix[i].toNat] := by simp [List.getD, x2]
      have hs := rIn_succ (ls := ls) (cur := cur) (nodes := nodes) c2
      rw [stepN, hD] at hs
      have hg2 := rIn_good (cur := cur) hL hix hg (i + 1) c2
      have hl2 := hg2.le (by omega)
      generalize hN1 : rIn ls cur ix nodes (i + 1) = nodes' at hs hg2 hl2
      generalize rIn ls cur ix nodes i = nds at hs hgi hli hcu ⊢
      have hr2 : (nds.map inL)[0 + ((q : Int)).toNat]? = some (inL cur) := by rw [List.getElem?_map, show 0 + ((q : Int)).toNat = q by omega, hcu]; rfl
      rw [inL_eq] at hr2
      have hqn : q < nds.length := (List.getElem?_eq_some_iff.1 hcu).1
      have hml : (nds.map inL).length = nds.length := List.length_map _
      have hw3 : IntKind.i64.wrap ((i : Int) + 1) = ((i + 1 : Nat) : Int) := by rw [IntWalk.i64_in _ (by omega)]; omega
      have hC := slContains_ro nds (nds.map inL) (othV cur ls[ix[i].toNat]) rfl (by omega)
      ((repeat' (first
    | (show SQ _ _ _ _ _ _ _ _; first | apply sq_nil | (apply q_move; exact rfl; exact rfl) | (apply q_assign; exact rfl; exact rfl) | (apply q_pick_t; (iterate 3 exact rfl); exact (by first | assumption | exact rfl)) | (apply q_pick_f; (iterate 3 exact rfl); exact (by first | assumption | exact rfl)) | (apply q_not; exact rfl; exact rfl) | (apply q_add; iterate 3 exact rfl) | (apply q_lss; iterate 3 exact rfl) | (apply q_ixd; (iterate 3 exact rfl); exact (ty rfl); exact rfl; exact (by first | omega | (simp; done) | (simp; omega)); exact (by first | omega | (simp; done) | (simp; omega)); exact (by first | rfl | assumption)) | (apply q_ld1d; exact rfl; exact rfl; exact (ty rfl); exact rfl; exact rfl) | (apply q_g; (iterate 3 exact rfl); exact (by assumption)) | (apply q_s; (iterate 3 exact rfl); exact (by assumption); exact rfl))
    | (show SQ _ _ _ _ _ _ _ _; (first | (apply q_buildn; exact rfl; exact (ty rfl); iterate 7 exact rfl) | (apply q_apo_s; (iterate 3 exact rfl); exact (ty rfl); exact rfl; exact rfl; exact (by first | omega | (simp; done) | (simp; omega)); exact (by first | exact List.take_of_length_le (by first | omega | (simp; done) | (simp; omega)) | rfl); exact (ty rfl); exact rfl; exact rfl; exact (by first | omega | (simp; done) | (simp; omega)); exact (by first | exact dt_full (by first | omega | (simp; done) | (simp; omega)) | assumption | rfl); exact rfl; exact (by first | omega | (simp; done) | (simp; omega)); exact (by first | omega | (simp; done) | (simp; omega)); exact (by first | assumption | exact rfl)) | (apply q_callU; (iterate 3 exact rfl); rotate_left; exact hC _; rotate_right; focus ((repeat' (first | exact FzL.nil | exact (by assumption : FzC _) _ | refine FzL.cons ?_ ?_ | exact Fz.of rfl | exact Fz.nil | exact Fz.emp | (apply Fz.fnC; assumption) | (apply Fz.sl2; exact rfl; exact (by first | omega | (simp; done) | (simp; omega)); first | exact rfl | exact dt_full (by first | omega | (simp; done) | (simp; omega)) | assumption) | apply Fz.agg | (apply Fz.ptrL; exact rfl; first | exact rfl | assumption) | apply Fz.fnL)); done))); (try simp only [put, rowsOf, plR, selE, ovr, setH, del, cellsA, splice, isV, spq, if_true, if_false]))
    | (show SQ _ _ _ _ _ _ _ _; apply q_gs; (iterate 4 exact rfl); all_goals intro h)
    | (show DE _ _ _ _ _ _ _ _ _ _ _ _; first | (apply e_move; iterate 3 exact rfl) | (apply e_assign; iterate 3 exact rfl) | (apply e_fieldAddr; exact rfl; exact rfl; exact (ty rfl); iterate 5 exact rfl) | (apply e_ext; iterate 4 exact rfl) | (apply e_ixd; (iterate 3 exact rfl); exact (ty rfl); exact rfl; exact (by first | omega | (simp; done) | (simp; omega)); exact (by first | omega | (simp; done) | (simp; omega)); exact (by first | rfl | assumption); exact rfl) | (apply e_ixl; (iterate 3 exact rfl); exact (ty rfl); (iterate 3 exact rfl); exact (by first | omega | (simp; done) | (simp; omega)); exact (by first | omega | (simp; done) | (simp; omega)); exact rfl) | (apply e_ld1p; exact rfl; exact rfl; exact (ty rfl); exact rfl; exact rfl; exact (by first | rfl | assumption | ((try simp only [Nat.zero_add]); refine List.getElem?_set_self ?_; (try simp only [List.length_set]); assumption)); exact rfl; exact rfl))
    | (show DE _ _ _ _ _ _ _ _ _ _ _ _; (first | (apply dr_nil; exact trivial) | (apply e_ldad; exact rfl; exact rfl; exact (ty rfl); iterate 3 exact rfl) | (apply e_callU; (iterate 3 exact rfl); exact FzL.of rfl; exact other_ro cur ls[ix[i].toNat] _; exact rfl)); (try simp only [put, rowsOf, plR, selE, ovr, setH, del, cellsA, splice, isV, spq, if_true, if_false]))
    | (show AW _ _ _ _ _ _ _ _; first | refine aw_region ?_ | (refine aw_seqk ?_; intro K hK) | refine aw_block ?_ | (apply aw_cond_f; exact rfl; exact rfl) | (apply aw_cond_t; exact rfl; exact (by assumption)) | refine aw_skip ?_ | refine aw_drawE (id := 8) [0, 1, 0, 7, 15, 0, 0, 96, 224, 511, 1023, 2047, 2047, 4095, 16383] [0, 1, 0, 0, 1, 0, 0, 1, 1, 1, 0, 0, 0, 0, 0] mixed (by kernel_rfl) ?_ | (apply aw_ite; exact rfl; all_goals intro h))
    | refine thn_n ?_
    | (refine hK _ _ _ ?_; clear hK K)
    | refine inb_n ?_)); all_goals (repeat (clear hK K)))
      · rw [if_pos (by simp_all)] at hs
        refine ⟨i + 1, fun j => [0, 3].getD j 0, c2, by omega, ?_⟩
        (try dsimp only); rw [hN1, hs, List.map_append, List.length_append, ← hw3]
        exact ⟨by (repeat (refine ⟨by first | exact lk_i rfl rfl | exact lk_d rfl rfl | exact lk_r rfl rfl rfl | exact lk_s rfl rfl rfl rfl, ?_⟩)); exact trivial, by (repeat (refine ⟨by first | exact ⟨rfl, rfl, rfl⟩, ?_⟩)); exact trivial, by rfl, by exact pin_0⟩
      · rw [if_neg (by simp_all)] at hs
        refine ⟨i + 1, id, c2, by omega, ?_⟩
        (try dsimp only); rw [hN1, hs, ← hw3]
        exact ⟨by (repeat (refine ⟨by first | exact lk_i rfl rfl | exact lk_d rfl rfl | exact lk_r rfl rfl rfl | exact lk_s rfl rfl rfl rfl, ?_⟩)); exact trivial, by (repeat (refine ⟨by first | exact ⟨rfl, rfl, rfl⟩, ?_⟩)); exact trivial, by rfl, by exact pin_0⟩
      · rw [if_neg (by simp_all)] at hs
        refine ⟨i + 1, id, c2, by omega, ?_⟩
        (try dsimp only); rw [hN1, hs, ← hw3]
        exact ⟨by (repeat (refine ⟨by first | exact lk_i rfl rfl | exact lk_d rfl rfl | exact lk_r rfl rfl rfl | exact lk_s rfl rfl rfl rfl, ?_⟩)); exact trivial, by (repeat (refine ⟨by first | exact ⟨rfl, rfl, rfl⟩, ?_⟩)); exact trivial, by rfl, by exact pin_0⟩
    · have b2 : decide ((i : Int) < (ix.length : Int)) = false := by simpa using c2
      obtain rfl : i = ix.length := by omega
      have hqn : q < (rIn ls cur ix nodes ix.length).length := (List.getElem?_eq_some_iff.1 hcu).1
      have hw3 : IntKind.i64.wrap ((q : Int) + 1) = ((q + 1 : Nat) : Int) := by rw [IntWalk.i64_in _ (by omega)]; omega
      ((repeat' (first
    | (show SQ _ _ _ _ _ _ _ _; first | apply sq_nil | (apply q_move; exact rfl; exact rfl) | (apply q_assign; exact rfl; exact rfl) | (apply q_add; iterate 3 exact rfl) | (apply q_lss; iterate 3 exact rfl))
    | (show AW _ _ _ _ _ _ _ _; first | refine aw_region ?_ | (refine aw_seqk ?_; intro K hK) | (apply aw_cond_f; exact rfl; exact (by assumption)) | refine aw_exit ?_)
    | refine thn_n ?_
    | (refine hK _ _ _ ?_; clear hK K)
    | refine thn_e ?_
    | refine inb_same ?_
    | refine inb_n ?_
    | (clear hK K; refine hK _ _ _ ?_; clear hK K))); all_goals (repeat (clear hK K)))
      refine ⟨(q + 1, rIn ls cur ix nodes ix.length), id, ⟨hqn, hgi, ?_⟩, by dsimp only; omega, ?_⟩
      · dsimp only; rw [← hR, show n.toNat - (q + 1) = f by omega]
      · (try dsimp only); rw [← hw3]; exact ⟨by (repeat (refine ⟨by first | exact lk_i rfl rfl | exact lk_d rfl rfl | exact lk_r rfl rfl rfl | exact lk_s rfl rfl rfl rfl, ?_⟩)); exact trivial, by (repeat (refine ⟨by first | exact ⟨rfl, rfl, rfl⟩, ?_⟩)); exact trivial, by rfl, by exact pin_0⟩
  · have b1 : decide ((q : Int) < (nodes.length : Int)) = false := by simpa using c1
    have hE : reachF ls ix (n.toNat - q) q nodes = nodes := by
      cases n.toNat - q with
      | zero => rfl
      | succ f => rw [reachF, if_neg c1]
    rw [hE] at hR
    subst hR
    ((repeat' (first
    | (show SQ _ _ _ _ _ _ _ _; first | apply sq_nil | (apply q_move; exact rfl; exact rfl) | (apply q_assign; exact rfl; exact rfl) | (apply q_lenl; exact rfl; exact rfl; exact (ty rfl); exact rfl) | (apply q_lss; iterate 3 exact rfl))
    | (show AW _ _ _ _ _ _ _ _; first | refine aw_region ?_ | (refine aw_seqk ?_; intro K hK) | (apply aw_cond_f; exact rfl; exact (by assumption)) | refine aw_ret ?_ | refine aw_exit ?_)
    | refine thn_n ?_
    | (refine hK _ _ _ ?_; clear hK K)
    | refine thn_e ?_
    | refine inb_same ?_
    | (clear hK K; refine hK _ _ _ ?_; clear hK K))); all_goals (repeat (clear hK K)))
    all_goals exact fin_r (fin_m rfl rfl _ _ rfl rfl)
end Go.Proofs.Ytglfcaioapdiaaa.Bk

namespace Go.Proofs.Ytglfcaioapdiaaa.Bk
set_option linter.unusedSimpArgs false
set_option linter.unusedVariables false
def Ed (p : List Ln) (x y : Int) : Prop := ∃ l ∈ p, linkP x y l = true
inductive Cn (p : List Ln) (x : Int) : Int → Prop
  | refl : Cn p x x
  | step {y z : Int} : Cn p x y → Ed p y z → Cn p x z
theorem Ed.symm {p : List Ln} {x y : Int} (h : Ed p x y) : Ed p y x := by
  obtain ⟨l, hl, h⟩ := h; exact ⟨l, hl, linkP_symm h⟩
theorem Cn.trans {p : List Ln} {x y z : Int} (h : Cn p x y) (g : Cn p y z) : Cn p x z := by
  induction g with
  | refl => exact h
  | step _ e ih => exact ih.step e
theorem Cn.symm {p : List Ln} {x y : Int} (h : Cn p x y) : Cn p y x := by
  induction h with
  | refl => exact .refl
  | step _ e ih => exact (Cn.step .refl e.symm).trans ih
theorem Cn.mono {p q : List Ln} (hpq : ∀ l ∈ p, l ∈ q) {x y : Int} (h : Cn p x y) : Cn q x y := by
  induction h with
  | refl => exact .refl
  | step _ e ih => obtain ⟨l, hl, e⟩ := e; exact ih.step ⟨l, hpq l hl, e⟩
theorem Cn_add (p : List Ln) (l : Ln) (x y : Int) : Cn (p ++ [l]) x y ↔ Cn p x y ∨ (Cn p x l.b ∧ Cn p l.a y) ∨ (Cn p x l.a ∧ Cn p l.b y) := by
  constructor
  · intro h
    induction h with
    | refl => exact .inl .refl
    | @step y z _ e ih =>
      obtain ⟨k, hk, e⟩ := e
      rcases List.mem_append.1 hk with h1 | h1
      · have e : Ed p y z := ⟨k, h1, e⟩
        rcases ih with h | ⟨h, g⟩ | ⟨h, g⟩
        · exact .inl (h.step e)
        · exact .inr (.inl ⟨h, g.step e⟩)
        · exact .inr (.inr ⟨h, g.step e⟩)
      · simp at h1; subst h1
        rcases linkP_iff.1 e with ⟨rfl, rfl⟩ | ⟨rfl, rfl⟩
        · rcases ih with h | ⟨h, g⟩ | ⟨h, g⟩
          · exact .inr (.inr ⟨h, .refl⟩)
          · exact .inl h
          · exact .inr (.inr ⟨h, .refl⟩)
        · rcases ih with h | ⟨h, g⟩ | ⟨h, g⟩
          · exact .inr (.inl ⟨h, .refl⟩)
          · exact .inr (.inl ⟨h, .refl⟩)
          · exact .inl h
  · have hm : ∀ k ∈ p, k ∈ p ++ [l] := fun k hk => List.mem_append_left _ hk
    have e : Ed (p ++ [l]) l.a l.b := ⟨l, by simp, linkP_iff.2 (.inl ⟨rfl, rfl⟩)⟩
    rintro (h | ⟨h, g⟩ | ⟨h, g⟩)
    · exact h.mono hm
    · exact ((h.mono hm).step e.symm).trans (g.mono hm)
    · exact ((h.mono hm).step e).trans (g.mono hm)
theorem Cn_nil {x y : Int} (h : Cn [] x y) : x = y := by
  cases h with
  | refl => rfl
  | step _ e => obtain ⟨l, hl, _⟩ := e; simp at hl
def act (ls : List Ln) (may : List Bool) (i : Nat) : List Ln := ((List.range i).filter fun j => may.getD j false).map fun j => ls.getD j lnz
theorem act_yes {ls : List Ln} {may : List Bool} {i : Nat} (h : may.getD i false = true) : act ls may (i + 1) = act ls may i ++ [ls.getD i lnz] := by
  simp only [act, List.range_succ, List.filter_append, List.filter_cons, List.filter_nil, h, if_true, List.map_append, List.map_cons, List.map_nil]
theorem act_no {ls : List Ln} {may : List Bool} {i : Nat} (h : may.getD i false = false) : act ls may (i + 1) = act ls may i := by
  simp only [act, List.range_succ, List.filter_append, List.filter_cons, List.filter_nil, h, Bool.false_eq_true, if_false, List.append_nil]
theorem relab_get {x y : Int} {p : List Int} {k : Nat} (h : k < p.length) : (relab x y p).getD k 0 = if p.getD k 0 = y then x else p.getD k 0 := by
  simp [relab, List.getD, h]
theorem parts_conn {n : Int} {ls : List Ln} {may : List Bool} (hL : ∀ l ∈ ls, 0 ≤ l.a ∧ l.a < n ∧ 0 ≤ l.b ∧ l.b < n) : ∀ i, i ≤ ls.length → ∀ x y : Int, 0 ≤ x → x < n → 0 ≤ y → y < n →
    ((parts n ls may i).getD x.toNat 0 = (parts n ls may i).getD y.toNat 0 ↔ Cn (act ls may i) x y)
  | 0, _, x, y, hx, hx1, hy, hy1 => by
    have g : ∀ z : Int, 0 ≤ z → z < n → (parts n ls may 0).getD z.toNat 0 = z := fun z h0 h1 => by
      have : z.toNat < n.toNat := by omega
      simp [parts, part0, List.getD, this]; omega
    rw [g x hx hx1, g y hy hy1]
    exact ⟨fun h => h ▸ .refl, fun h => Cn_nil h⟩
  | i + 1, hi, x, y, hx, hx1, hy, hy1 => by
    have ih := parts_conn hL i (by omega) (may := may)
    have hlen := parts_len n ls may i
    simp only [parts, partS]
    cases hm : may.getD i false with
    | false => rw [act_no hm]; simpa using ih x y hx hx1 hy hy1
    | true =>
      rw [act_yes hm, Cn_add]
      have hl : ls.getD i lnz ∈ ls := by simp [List.getD, show i < ls.length by omega]
      obtain ⟨a0, a1, d0, d1⟩ := hL _ hl
      generalize ls.getD i lnz = l at a0 a1 d0 d1 ⊢
      have i1 := ih x y hx hx1 hy hy1
      have i2 := ih x l.b hx hx1 d0 d1
      have i3 := ih l.a y a0 a1 hy hy1
      have i4 := ih x l.a hx hx1 a0 a1
      have i5 := ih l.b y d0 d1 hy hy1
      generalize parts n ls may i = p at *
      simp only [if_true]
      rw [relab_get (by omega), relab_get (by omega), ← i1, ← i2, ← i3, ← i4, ← i5]
      generalize p.getD x.toNat 0 = px
      generalize p.getD y.toNat 0 = py
      generalize p.getD l.a.toNat 0 = pa
      generalize p.getD l.b.toNat 0 = pb
      grind
def lnAt (ls : List Ln) (t : Int) : Ln := ls.getD t.toNat lnz
theorem stepN_mem {ls : List Ln} {cur y t : Int} {nodes : List Int} (h : y ∈ nodes) : y ∈ stepN ls cur nodes t := by
  unfold stepN
  split
  · exact List.mem_append_left _ h
  · exact h
theorem foldN_mem {ls : List Ln} {cur y : Int} : ∀ (ix nodes : List Int), y ∈ nodes → y ∈ ix.foldl (stepN ls cur) nodes
  | [], _, h => h
  | t :: ix, nodes, h => foldN_mem ix _ (stepN_mem h)
theorem stepN_src {ls : List Ln} {cur y t : Int} {nodes : List Int} (h : y ∈ stepN ls cur nodes t) : y ∈ nodes ∨ linkP cur y (lnAt ls t) = true := by
  unfold stepN at h
  split at h
  · rename_i hc
    rcases List.mem_append.1 h with h | h
    · exact .inl h
    · simp at h
      right
      rw [← oth_link]
      simp only [Bool.and_eq_true] at hc
      simp only [lnAt, hc.1, Bool.true_and, beq_iff_eq]
      exact h.symm
  · exact .inl h
theorem foldN_src {ls : List Ln} {cur y : Int} : ∀ (ix nodes : List Int), y ∈ ix.foldl (stepN ls cur) nodes → y ∈ nodes ∨ ∃ t ∈ ix, linkP cur y (lnAt ls t) = true
  | [], _, h => .inl h
  | t :: ix, nodes, h => by
    rcases foldN_src ix _ h with h | ⟨u, hu, h⟩
    · rcases stepN_src h with h | h
      · exact .inl h
      · exact .inr ⟨t, List.mem_cons_self, h⟩
    · exact .inr ⟨u, List.mem_cons_of_mem _ hu, h⟩
theorem stepN_all {ls : List Ln} {cur z t : Int} {nodes : List Int} (h : linkP cur z (lnAt ls t) = true) : z ∈ stepN ls cur nodes t := by
  rw [← oth_link] at h
  simp only [Bool.and_eq_true, beq_iff_eq, lnAt] at h
  unfold stepN
  split
  · rw [h.2]; simp
  · rename_i hc
    simp only [h.1, Bool.true_and, Bool.not_eq_true, Bool.not_eq_false', List.any_eq_true, beq_iff_eq] at hc
    obtain ⟨w, hw, e⟩ := hc
    rw [← h.2, ← e]; exact hw
theorem foldN_all {ls : List Ln} {cur z : Int} : ∀ (ix nodes : List Int) (t : Int), t ∈ ix → linkP cur z (lnAt ls t) = true → z ∈ ix.foldl (stepN ls cur) nodes
  | [], _, t, ht, _ => by simp at ht
  | u :: ix, nodes, t, ht, h => by
    rcases List.mem_cons.1 ht with rfl | ht
    · exact foldN_mem ix _ (stepN_all h)
    · exact foldN_all ix _ t ht h
theorem reachF_spec {n : Int} {ls : List Ln} {ix : List Int} {frm : Int} (h0 : 0 ≤ n) (hL : ∀ l ∈ ls, 0 ≤ l.a ∧ l.a < n ∧ 0 ≤ l.b ∧ l.b < n) (hix : ∀ x ∈ ix, 0 ≤ x ∧ x < ls.length) : ∀ (f k : Nat) (nodes : List Int), n.toNat - k = f → k ≤ nodes.length → GoodN n nodes →
    (∀ y ∈ nodes, Cn (ix.map (lnAt ls)) frm y) → (∀ j y, j < k → nodes[j]? = some y → ∀ z, Ed (ix.map (lnAt ls)) y z → z ∈ nodes) →
    (∀ y ∈ nodes, y ∈ reachF ls ix f k nodes) ∧ GoodN n (reachF ls ix f k nodes) ∧ (∀ y ∈ reachF ls ix f k nodes, Cn (ix.map (lnAt ls)) frm y) ∧ ∀ y ∈ reachF ls ix f k nodes, ∀ z, Ed (ix.map (lnAt ls)) y z → z ∈ reachF ls ix f k nodes := by
  have fin : ∀ (k : Nat) (nodes : List Int), nodes.length ≤ k → GoodN n nodes → (∀ y ∈ nodes, Cn (ix.map (lnAt ls)) frm y) → (∀ j y, j < k → nodes[j]? = some y → ∀ z, Ed (ix.map (lnAt ls)) y z → z ∈ nodes) →
      (∀ y ∈ nodes, y ∈ nodes) ∧ GoodN n nodes ∧ (∀ y ∈ nodes, Cn (ix.map (lnAt ls)) frm y) ∧ ∀ y ∈ nodes, ∀ z, Ed (ix.map (lnAt ls)) y z → z ∈ nodes := fun k nodes hk hg hc he =>
    ⟨fun _ h => h, hg, hc, fun y hy z hz => by
      obtain ⟨j, hj, rfl⟩ := List.getElem_of_mem hy
      exact he j _ (by omega) (List.getElem?_eq_getElem hj) z hz⟩
  intro f
  induction f with
  | zero => intro k nodes hf hk hg hc he; exact fin k nodes (by have := hg.le h0; omega) hg hc he
  | succ f ih =>
    intro k nodes hf hk hg hc he
    rw [reachF]
    split
    · rename_i hlt
      have hcur : nodes[k]? = some (nodes.getD k 0) := by simp [List.getD, hlt]
      have hmem : nodes.getD k 0 ∈ nodes := List.mem_of_getElem? hcur
      generalize nodes.getD k 0 = cur at hcur hmem ⊢
      have hR : rIn ls cur ix nodes ix.length = ix.foldl (stepN ls cur) nodes := by rw [rIn, List.take_length]
      have hg2 := rIn_good (cur := cur) hL hix hg ix.length (Nat.le_refl _)
      rw [hR] at hg2 ⊢
      have hk2 : (ix.foldl (stepN ls cur) nodes)[k]? = some cur := foldN_get _ _ hcur
      have := ih (k + 1) (ix.foldl (stepN ls cur) nodes) (by omega) (List.getElem?_eq_some_iff.1 hk2).1 hg2 (fun y hy => by
        rcases foldN_src ix nodes hy with h | ⟨t, ht, h⟩
        · exact hc y h
        · exact (hc cur hmem).step ⟨_, List.mem_map.2 ⟨t, ht, rfl⟩, h⟩) (fun j y hj hy z hz => by
        by_cases hjk : j = k
        · subst hjk
          rw [hk2] at hy
          cases hy
          obtain ⟨l, hl, hz⟩ := hz
          obtain ⟨t, ht, rfl⟩ := List.mem_map.1 hl
          exact foldN_all ix nodes t ht hz
        · have hjn : j < nodes.length := by omega
          have h2 : (ix.foldl (stepN ls cur) nodes)[j]? = some nodes[j] := foldN_get _ _ (List.getElem?_eq_getElem hjn)
          rw [h2] at hy
          cases hy
          exact foldN_mem ix nodes (he j _ (by omega) (List.getElem?_eq_getElem hjn) z hz))
      exact ⟨fun y hy => this.1 y (foldN_mem ix nodes hy), this.2⟩
    · exact fin k nodes (by omega) hg hc he
theorem reachV_spec {n : Int} {ls : List Ln} {ix : List Int} {frm : Int} (hL : ∀ l ∈ ls, 0 ≤ l.a ∧ l.a < n ∧ 0 ≤ l.b ∧ l.b < n) (hix : ∀ x ∈ ix, 0 ≤ x ∧ x < ls.length) (hf : 0 ≤ frm ∧ frm < n) :
    GoodN n (reachV n ls ix frm) ∧ ∀ y, y ∈ reachV n ls ix frm ↔ Cn (ix.map (lnAt ls)) frm y := by
  have := reachF_spec (frm := frm) (by omega) hL hix n.toNat 0 [frm] (by omega) (Nat.zero_le _) ⟨by simp, fun x hx => by simp at hx; subst hx; exact hf⟩ (fun y hy => by simp at hy; subst hy; exact .refl) (fun j y hj => absurd hj (Nat.not_lt_zero _))
  obtain ⟨h1, h2, h3, h4⟩ := this
  refine ⟨h2, fun y => ⟨h3 y, fun h => ?_⟩⟩
  induction h with
  | refl => exact h1 frm (by simp)
  | step _ e ih => exact h4 _ ih _ e
end Go.Proofs.Ytglfcaioapdiaaa.Bk

namespace Go.Proofs.Ytglfcaioapdiaaa.Bk
open Go Go.RowKit Go.Proofs.Ytglfcaioapdiaaa.Aw
set_option linter.unusedSimpArgs false
set_option linter.unusedVariables false
attribute [local irreducible] AW SQ Step RO RC DE Thn InB
theorem bkB_in {n : Int} {ls : List Ln} (h : bkB n ls = true) : (1 ≤ n ∧ n ≤ 12) ∧ ∀ l ∈ ls, 0 ≤ l.a ∧ l.a < n ∧ 0 ≤ l.b ∧ l.b < n := by
  simp only [bkB, Bool.and_eq_true, decide_eq_true_eq] at h
  refine ⟨by simpa [inB] using h.1.1, fun l hl => ?_⟩
  obtain ⟨j, hj, rfl⟩ := List.getElem_of_mem hl
  have := List.all_eq_true.1 h.2 j (List.mem_range.2 hj)
  simp only [goodL, sOk, inB, Bool.and_eq_true, decide_eq_true_eq, List.getD, List.getElem?_eq_getElem hj, Option.getD_some] at this
  omega
def selI (p : Nat → Bool) (i : Nat) : List Int := ((List.range i).filter p).map fun j : Nat => (j : Int)
theorem selI_len (p : Nat → Bool) (i : Nat) : (selI p i).length ≤ i := by
  have := List.length_filter_le p (List.range i)
  simpa [selI] using this
theorem selI_yes {p : Nat → Bool} {i : Nat} (h : p i = true) : selI p (i + 1) = selI p i ++ [(i : Int)] := by
  simp [selI, List.range_succ, List.filter_append, h]
theorem selI_no {p : Nat → Bool} {i : Nat} (h : p i = false) : selI p (i + 1) = selI p i := by
  simp [selI, List.range_succ, List.filter_append, h]
theorem selI_in {p : Nat → Bool} {i : Nat} {x : Int} (h : x ∈ selI p i) : 0 ≤ x ∧ x < i := by
  obtain ⟨j, hj, rfl⟩ := List.mem_map.1 h
  have := List.mem_range.1 (List.mem_filter.1 hj).1
  omega
def allT (m : Nat) : List Bool := (List.range m).map fun _ => true
def mayI (m i : Nat) : List Bool := (allT m).set i false
theorem mayI_get {m i j : Nat} (h : j < m) : (mayI m i).getD j false = (j != i) := by
  simp only [mayI, allT, List.getD, List.getElem?_set]
  by_cases e : i = j
  · subst e; simp [h]
  · simp [e, h, Ne.symm e]
def crB (n : Int) (ls : List Ln) (i : Nat) : Bool := (parts n ls (mayI ls.length i) ls.length).getD (ls.getD i lnz).a.toNat 0 != (parts n ls (mayI ls.length i) ls.length).getD (ls.getD i lnz).b.toNat 0
theorem act_others (ls : List Ln) (i : Nat) (l : Ln) : l ∈ act ls (mayI ls.length i) ls.length ↔ l ∈ (selI (fun j => ((j : Int) != (i : Int))) ls.length).map (lnAt ls) := by
  simp only [act, selI, List.mem_map, List.mem_filter, List.mem_range]
  constructor
  · rintro ⟨j, ⟨hj, hm⟩, rfl⟩
    rw [mayI_get hj] at hm
    exact ⟨(j : Int), ⟨j, ⟨hj, by simp at hm ⊢; omega⟩, rfl⟩, by simp [lnAt]⟩
  · rintro ⟨x, ⟨j, ⟨hj, hm⟩, rfl⟩, rfl⟩
    exact ⟨j, ⟨hj, by rw [mayI_get hj]; simp at hm ⊢; omega⟩, by simp [lnAt]⟩
theorem crB_eq {n : Int} {ls : List Ln} (hL : ∀ l ∈ ls, 0 ≤ l.a ∧ l.a < n ∧ 0 ≤ l.b ∧ l.b < n) {i : Nat} (hi : i < ls.length) :
    (!(reachV n ls (selI (fun j => ((j : Int) != (i : Int))) ls.length) ls[i].a).any fun y => y == ls[i].b) = crB n ls i := by
  obtain ⟨a0, a1, d0, d1⟩ := hL ls[i] (List.getElem_mem hi)
  have hc := parts_conn (may := mayI ls.length i) hL ls.length (Nat.le_refl _) ls[i].a ls[i].b a0 a1 d0 d1
  have hr := (reachV_spec (ix := selI (fun j => ((j : Int) != (i : Int))) ls.length) hL (fun x hx => selI_in hx) ⟨a0, a1⟩).2 ls[i].b
  have hm : Cn (act ls (mayI ls.length i) ls.length) ls[i].a ls[i].b ↔ Cn ((selI (fun j => ((j : Int) != (i : Int))) ls.length).map (lnAt ls)) ls[i].a ls[i].b :=
    ⟨fun h => h.mono fun l hl => (act_others ls i l).1 hl, fun h => h.mono fun l hl => (act_others ls i l).2 hl⟩
  have hD : ls.getD i lnz = ls[i] := by simp [List.getD, hi]
  rw [hm, ← hr] at hc
  unfold crB
  rw [hD, Bool.eq_iff_iff]
  simp only [Bool.not_eq_true', List.any_eq_false, beq_iff_eq, bne_iff_ne, ne_eq, hc]
  constructor
  · intro h h2; exact h _ h2 rfl
  · intro h y hy e; subst e; exact h hy
end Go.Proofs.Ytglfcaioapdiaaa.Bk

namespace Go.Proofs.Ytglfcaioapdiaaa.Bk
open Go Go.RowKit Go.Proofs.Ytglfcaioapdiaaa.Aw
set_option linter.unusedSimpArgs false
set_option linter.unusedVariables false
attribute [local irreducible] AW SQ Step RO RC DE Thn InB
def incAt (xs : List Int) (i : Nat) : Bool := decide (i = 0) || decide (xs.getD (i - 1) 0 < xs.getD i 0)
theorem incAt0 (xs : List Int) : incAt xs 0 = true := rfl
def incB (xs : List Int) : Bool := (List.range xs.length).all (incAt xs)
set_option maxHeartbeats 4000000 in
theorem increasing_ro (xs : List Int) (hn : xs.length ≤ 1048576) (k : Nat) : RO Try.prog 104 [.dsl 1 (xs.map inL)] k (.v (.bool (incB xs))) [] k := by
  refine RO.ofv' Try.func104 Try.ntmps104 rfl (goFn_of Try.func104 rfl (by kernel_rfl)) rfl rfl ?_
  ((repeat' (first
    | (show SQ _ _ _ _ _ _ _ _; first | apply sq_nil | (apply q_assign; exact rfl; exact rfl))
    | (show AW _ _ _ _ _ _ _ _; first | refine aw_region ?_ | (refine aw_seqk ?_; intro K hK) | refine aw_block ?_)
    | refine thn_n ?_
    | (refine hK _ _ _ ?_; clear hK K))); all_goals (repeat (clear hK K)))
  refine aw_loop (ρ := id) (ι := Nat) (fun i => ([(3, .v (.int .i64 i)), (0, .dsl 1 (xs.map inL))], [], 0))
    (fun i => 1 ≤ i ∧ ∀ j, j < i → j < xs.length → incAt xs j = true) (fun i => xs.length - i) 1 ⟨Nat.le_refl _, fun j hj _ => (show j = 0 by omega) ▸ incAt0 xs⟩ ⟨by (repeat (refine ⟨by first | exact lk_i rfl rfl | exact lk_d rfl rfl, ?_⟩)); exact trivial, by exact trivial, by rfl, by exact pin_0⟩ ?_
  rintro i ⟨hi, hg⟩
  by_cases c2 : i < xs.length
  · have b2 : decide ((i : Int) < ((xs.map inL).length : Int)) = true := by simpa using c2
    have hrow : (xs.map inL)[((i : Int)).toNat]? = some (inL xs[i]) := by simp [c2]
    have hw2 : IntKind.i64.wrap ((i : Int) - 1) = (i : Int) - 1 := IntWalk.i64_in _ (by omega)
    have hrow2 : (xs.map inL)[(IntKind.i64.wrap ((i : Int) - 1)).toNat]? = some (inL xs[i - 1]) := by
      rw [hw2, show ((i : Int) - 1).toNat = i - 1 by omega]; simp [show i - 1 < xs.length by omega]
    rw [inL_eq] at hrow hrow2
    have hD : incAt xs i = decide (xs[i - 1] < xs[i]) := by simp [incAt, List.getD, c2, show i - 1 < xs.length by omega, show i ≠ 0 by omega]
    ((repeat' (first
    | (show SQ _ _ _ _ _ _ _ _; first | apply sq_nil | (apply q_move; exact rfl; exact rfl) | (apply q_assign; exact rfl; exact rfl) | (apply q_lend; exact rfl; exact rfl; exact (ty rfl); exact rfl) | (apply q_add; iterate 3 exact rfl) | (apply q_lss; iterate 3 exact rfl))
    | (show DE _ _ _ _ _ _ _ _ _ _ _ _; first | (apply e_move; iterate 3 exact rfl) | (apply e_sub; iterate 4 exact rfl) | (apply e_leq; iterate 4 exact rfl) | (apply e_ixd; (iterate 3 exact rfl); exact (ty rfl); exact rfl; exact (by first | omega | (simp; done) | (simp; omega)); exact (by first | omega | (simp; done) | (simp; omega)); exact (by first | rfl | assumption); exact rfl) | (apply e_ld1d; exact rfl; exact rfl; exact (ty rfl); iterate 3 exact rfl))
    | (show DE _ _ _ _ _ _ _ _ _ _ _ _; (first | (apply dr_nil; exact trivial)); (try simp only [put, rowsOf, plR, selE, ovr, setH, del, cellsA, splice, isV, spq, if_true, if_false]))
    | (show AW _ _ _ _ _ _ _ _; first | refine aw_region ?_ | (refine aw_seqk ?_; intro K hK) | refine aw_block ?_ | (apply aw_cond_t; exact rfl; exact (by assumption)) | refine aw_ret ?_ | refine aw_skip ?_ | refine aw_drawE (id := 4) [0, 0, 3, 7, 0, 0, 32, 112, 240, 511] [0, 0, 0, 1, 0, 0, 0, 0, 1, 0] mixed (by kernel_rfl) ?_ | (apply aw_ite; exact rfl; all_goals intro h))
    | refine thn_n ?_
    | (refine hK _ _ _ ?_; clear hK K)
    | refine thn_r ?_
    | refine inb_n ?_
    | refine inb_r ?_)); all_goals (repeat (clear hK K)))
    all_goals first
      | (refine fin_r (fin_b rfl ?_)
         refine (allR_false c2 ?_).symm
         rw [hD]; simp_all; done)
      | (refine ⟨i + 1, id, ⟨by omega, fun j hj hj2 => ?_⟩, by omega, ⟨by (repeat (refine ⟨by first | exact lk_i rfl (by (try dsimp only); first | rfl | omega | (rw [IntWalk.i64_in _ (by omega)]; first | rfl | omega | (push_cast; omega)) | (simp; done) | (simp; omega)) | exact lk_d rfl rfl, ?_⟩)); exact trivial, by exact trivial, by rfl, by exact pin_0⟩⟩
         by_cases hjq : j < i
         · exact hg j hjq hj2
         · obtain rfl : j = i := by omega
           rw [hD]; simp_all)
  · have b2 : decide ((i : Int) < ((xs.map inL).length : Int)) = false := by simpa using c2
    ((repeat' (first
    | (show SQ _ _ _ _ _ _ _ _; first | apply sq_nil | (apply q_move; exact rfl; exact rfl) | (apply q_assign; exact rfl; exact rfl) | (apply q_lend; exact rfl; exact rfl; exact (ty rfl); exact rfl) | (apply q_lss; iterate 3 exact rfl))
    | (show AW _ _ _ _ _ _ _ _; first | refine aw_region ?_ | (refine aw_seqk ?_; intro K hK) | (apply aw_cond_f; exact rfl; exact (by assumption)) | refine aw_ret ?_ | refine aw_exit ?_)
    | refine thn_n ?_
    | (refine hK _ _ _ ?_; clear hK K)
    | refine thn_e ?_
    | refine inb_same ?_
    | (clear hK K; refine hK _ _ _ ?_; clear hK K))); all_goals (repeat (clear hK K)))
    all_goals refine fin_r (fin_b rfl ?_)
    exact (allR_true fun j hj => hg j (by omega) hj).symm
end Go.Proofs.Ytglfcaioapdiaaa.Bk

-- Trees: both functions.
namespace Go.Proofs.Ytglfcaioapdiaaa.Bk
open Go Go.RowKit Go.Proofs.Ytglfcaioapdiaaa.Aw
set_option linter.unusedSimpArgs false
set_option linter.unusedVariables false
attribute [local irreducible] AW SQ Step RO RC DE Thn InB
def inW (ls : List Ln) (ix : List Int) : Bool := !ix.any fun x => !inB x 0 ((ls.length : Int) - 1)
theorem inW_get {ls : List Ln} {ix : List Int} (h : inW ls ix = true) : ∀ x ∈ ix, 0 ≤ x ∧ x < ls.length := by
  intro x hx
  simp only [inW, Bool.not_eq_true', List.any_eq_false] at h
  have := h x hx
  simp [inB] at this
  omega
def isT (n : Int) (ls : List Ln) (ix : List Int) : Bool := incB ix && inW ls ix && ((ix.length : Int) == n - 1) && (((reachV n ls ix 0).length : Int) == n)
set_option maxHeartbeats 4000000 in
theorem isTree_ro (n : Int) (ls : List Ln) (ix : List Int) (hN : 1 ≤ n ∧ n ≤ 12) (hn : ls.length ≤ 1048576) (hr : ix.length ≤ 1048576) (hL : ∀ l ∈ ls, 0 ≤ l.a ∧ l.a < n ∧ 0 ≤ l.b ∧ l.b < n) (k : Nat) :
    RO Try.prog 64 [.agg (bkL n ls), .dsl 1 (ix.map inL)] k (.v (.bool (isT n ls ix))) [] k := by
  have hw : IntKind.i64.wrap (n - 1) = n - 1 := IntWalk.i64_in _ (by omega)
  have hll : ((ls.map lnL).length : Int) = (ls.length : Int) := by rw [List.length_map]
  have hw2 : IntKind.i64.wrap (((ls.map lnL).length : Int) - 1) = (ls.length : Int) - 1 := by rw [hll]; exact IntWalk.i64_in _ (by omega)
  have hI := increasing_ro ix hr
  have hA := allWithin_ro ix _ 0 (IntKind.i64.wrap (((ls.map lnL).length : Int) - 1)) rfl hr
  have hq : (!ix.any fun x => !inB x 0 (IntKind.i64.wrap (((ls.map lnL).length : Int) - 1))) = inW ls ix := by rw [hw2]; rfl
  rw [hq] at hA
  have hlx : (((ix.map inL).length : Int) == n - 1) = ((ix.length : Int) == n - 1) := by rw [List.length_map]
  unfold isT
  cases c1 : incB ix with
  | false =>
    refine RO.ofv' Try.func64 Try.ntmps64 rfl (goFn_of Try.func64 rfl (by kernel_rfl)) rfl rfl ?_
    unfold bkL
    ((repeat' (first
    | (show SQ _ _ _ _ _ _ _ _; first | apply sq_nil | (apply q_assign; exact rfl; exact rfl))
    | (show SQ _ _ _ _ _ _ _ _; (first | (apply q_box; iterate 3 exact rfl)); (try simp only [put, rowsOf, plR, selE, ovr, setH, del, cellsA, splice, isV, spq, if_true, if_false]))
    | (show DE _ _ _ _ _ _ _ _ _ _ _ _; first | (apply e_move; iterate 3 exact rfl) | (apply e_assign; iterate 3 exact rfl) | (apply e_pick_f; (iterate 3 exact rfl); exact (by first | assumption | exact rfl); exact rfl) | (apply e_s; (iterate 3 exact rfl); exact (by assumption); exact rfl) | (apply e_s; iterate 5 exact rfl))
    | (show DE _ _ _ _ _ _ _ _ _ _ _ _; (first | (apply dr_nil; exact trivial) | (apply e_callU; (iterate 3 exact rfl); exact FzL.of rfl; exact hI _; exact rfl)); (try simp only [put, rowsOf, plR, selE, ovr, setH, del, cellsA, splice, isV, spq, if_true, if_false]))
    | (show AW _ _ _ _ _ _ _ _; first | refine aw_region ?_ | (refine aw_seqk ?_; intro K hK) | refine aw_ret ?_ | refine aw_drawE (id := 1) [0, 1, 3, 7, 7, 23, 55, 119, 255, 511, 1023, 2047, 4095, 2047, 10239, 26623, 65535, 131071, 262143, 524287, 524287, 2097151, 4194303, 524287, 8912895, 33554431, 67108863, 134217727] [0, 1, 0, 0, 0, 1, 0, 0, 1, 0, 0, 0, 0, 0, 1, 0, 0, 0, 0, 1, 0, 1, 0, 0, 1, 0, 0, 0] mixed (by kernel_rfl) ?_)
    | refine thn_n ?_
    | (refine hK _ _ _ ?_; clear hK K))); all_goals (repeat (clear hK K)))
    all_goals refine fin_r (fin_b rfl ?_)
    all_goals simp_all
  | true =>
    cases c2 : inW ls ix with
    | false =>
      refine RO.ofv' Try.func64 Try.ntmps64 rfl (goFn_of Try.func64 rfl (by kernel_rfl)) rfl rfl ?_
      unfold bkL
      ((repeat' (first
    | (show SQ _ _ _ _ _ _ _ _; first | apply sq_nil | (apply q_assign; exact rfl; exact rfl))
    | (show SQ _ _ _ _ _ _ _ _; (first | (apply q_box; iterate 3 exact rfl)); (try simp only [put, rowsOf, plR, selE, ovr, setH, del, cellsA, splice, isV, spq, if_true, if_false]))
    | (show DE _ _ _ _ _ _ _ _ _ _ _ _; first | (apply e_move; iterate 3 exact rfl) | (apply e_assign; iterate 3 exact rfl) | (apply e_pick_t; (iterate 3 exact rfl); exact (by first | assumption | exact rfl); exact rfl) | (apply e_pick_f; (iterate 3 exact rfl); exact (by first | assumption | exact rfl); exact rfl) | (apply e_fieldAddr; exact rfl; exact rfl; exact (ty rfl); iterate 5 exact rfl) | (apply e_lend; exact rfl; exact rfl; exact (ty rfl); exact rfl; exact rfl) | (apply e_sub; iterate 4 exact rfl) | (apply e_ld1p; exact rfl; exact rfl; exact (ty rfl); exact rfl; exact rfl; exact (by first | rfl | assumption | ((try simp only [Nat.zero_add]); refine List.getElem?_set_self ?_; (try simp only [List.length_set]); assumption)); exact rfl; exact rfl) | (apply e_g; (iterate 3 exact rfl); exact (by assumption)) | (apply e_s; (iterate 3 exact rfl); exact (by assumption); exact rfl) | (apply e_s; iterate 5 exact rfl))
    | (show DE _ _ _ _ _ _ _ _ _ _ _ _; (first | (apply dr_nil; exact trivial) | (apply e_callU; (iterate 3 exact rfl); exact FzL.of rfl; exact hI _; exact rfl) | (apply e_callU; (iterate 3 exact rfl); exact FzL.of rfl; exact hA _; exact rfl)); (try simp only [put, rowsOf, plR, selE, ovr, setH, del, cellsA, splice, isV, spq, if_true, if_false]))
    | (show AW _ _ _ _ _ _ _ _; first | refine aw_region ?_ | (refine aw_seqk ?_; intro K hK) | refine aw_ret ?_ | refine aw_drawE (id := 1) [0, 1, 3, 7, 7, 23, 55, 119, 255, 511, 1023, 2047, 4095, 2047, 10239, 26623, 65535, 131071, 262143, 524287, 524287, 2097151, 4194303, 524287, 8912895, 33554431, 67108863, 134217727] [0, 1, 0, 0, 0, 1, 0, 0, 1, 0, 0, 0, 0, 0, 1, 0, 0, 0, 0, 1, 0, 1, 0, 0, 1, 0, 0, 0] mixed (by kernel_rfl) ?_)
    | refine thn_n ?_
    | (refine hK _ _ _ ?_; clear hK K))); all_goals (repeat (clear hK K)))
      all_goals refine fin_r (fin_b rfl ?_)
      all_goals simp_all
    | true =>
      have hRe := reached_ro n ls ix 0 hN hn hr hL (inW_get c2) (by omega)
      refine RO.ofv' Try.func64 Try.ntmps64 rfl (goFn_of Try.func64 rfl (by kernel_rfl)) rfl rfl ?_
      unfold bkL at hRe ⊢
      ((repeat' (first
    | (show SQ _ _ _ _ _ _ _ _; first | apply sq_nil | (apply q_assign; exact rfl; exact rfl))
    | (show SQ _ _ _ _ _ _ _ _; (first | (apply q_box; iterate 3 exact rfl)); (try simp only [put, rowsOf, plR, selE, ovr, setH, del, cellsA, splice, isV, spq, if_true, if_false]))
    | (show DE _ _ _ _ _ _ _ _ _ _ _ _; first | (apply e_move; iterate 3 exact rfl) | (apply e_assign; iterate 3 exact rfl) | (apply e_pick_t; (iterate 3 exact rfl); exact (by first | assumption | exact rfl); exact rfl) | (apply e_pick_f; (iterate 3 exact rfl); exact (by first | assumption | exact rfl); exact rfl) | (apply e_fieldAddr; exact rfl; exact rfl; exact (ty rfl); iterate 5 exact rfl) | (apply e_lend; exact rfl; exact rfl; exact (ty rfl); exact rfl; exact rfl) | (apply e_lenl; exact rfl; exact rfl; exact (ty rfl); exact rfl; exact rfl) | (apply e_sub; iterate 4 exact rfl) | (apply e_eql; iterate 4 exact rfl) | (apply e_ld1p; exact rfl; exact rfl; exact (ty rfl); exact rfl; exact rfl; exact (by first | rfl | assumption | ((try simp only [Nat.zero_add]); refine List.getElem?_set_self ?_; (try simp only [List.length_set]); assumption)); exact rfl; exact rfl) | (apply e_g; (iterate 3 exact rfl); exact (by assumption)) | (apply e_s; (iterate 3 exact rfl); exact (by assumption); exact rfl))
    | (show DE _ _ _ _ _ _ _ _ _ _ _ _; (first | (apply dr_nil; exact trivial) | (apply e_ldap; exact rfl; exact rfl; exact (ty rfl); exact rfl; exact rfl; exact (by first | rfl | assumption | ((try simp only [Nat.zero_add]); refine List.getElem?_set_self ?_; (try simp only [List.length_set]); assumption)); exact rfl; exact rfl) | (apply e_callU; (iterate 3 exact rfl); exact FzL.of rfl; exact hI _; exact rfl) | (apply e_callU; (iterate 3 exact rfl); exact FzL.of rfl; exact hA _; exact rfl) | (apply e_callU; (iterate 3 exact rfl); exact FzL.of rfl; exact hRe _; exact rfl)); (try simp only [put, rowsOf, plR, selE, ovr, setH, del, cellsA, splice, isV, spq, if_true, if_false]))
    | (show DE _ _ _ _ _ _ _ _ _ _ _ _; apply e_gs; (iterate 4 exact rfl); all_goals intro h)
    | (show AW _ _ _ _ _ _ _ _; first | refine aw_region ?_ | (refine aw_seqk ?_; intro K hK) | refine aw_ret ?_ | refine aw_drawE (id := 1) [0, 1, 3, 7, 7, 23, 55, 119, 255, 511, 1023, 2047, 4095, 2047, 10239, 26623, 65535, 131071, 262143, 524287, 524287, 2097151, 4194303, 524287, 8912895, 33554431, 67108863, 134217727] [0, 1, 0, 0, 0, 1, 0, 0, 1, 0, 0, 0, 0, 0, 1, 0, 0, 0, 0, 1, 0, 1, 0, 0, 1, 0, 0, 0] mixed (by kernel_rfl) ?_)
    | refine thn_n ?_
    | (refine hK _ _ _ ?_; clear hK K))); all_goals (repeat (clear hK K)))
      all_goals refine fin_r (fin_b rfl ?_)
      all_goals simp_all
def mayT (m : Nat) (ix : List Int) : Nat → List Bool
  | 0 => List.replicate m false
  | i + 1 => (mayT m ix i).set (ix.getD i 0).toNat true
theorem mayT_len (m : Nat) (ix : List Int) : ∀ i, (mayT m ix i).length = m
  | 0 => by simp [mayT]
  | i + 1 => by simp [mayT, mayT_len m ix i]
theorem mayT_get {m : Nat} {ix : List Int} {j : Nat} (hj : j < m) : ∀ i, i ≤ ix.length → ((mayT m ix i).getD j false = true ↔ ∃ t ∈ ix.take i, t.toNat = j)
  | 0, _ => by simp [mayT, List.getD, hj]
  | i + 1, hi => by
    have ih := mayT_get hj i (by omega) (ix := ix)
    have hl := mayT_len m ix i
    rw [List.take_succ_eq_append_getElem (by omega)]
    have hD : ix.getD i 0 = ix[i] := by simp [List.getD, show i < ix.length by omega]
    rw [mayT, hD]
    simp only [List.getD, List.getElem?_set, List.mem_append, List.mem_singleton]
    by_cases e : (ix[i]).toNat = j
    · simp only [e, if_true]
      have : j < (mayT m ix i).length := by omega
      simp only [this, if_true, Option.getD_some, true_iff]
      exact ⟨ix[i], .inr rfl, e⟩
    · simp only [e, if_false]
      rw [List.getD] at ih
      rw [ih]
      constructor
      · rintro ⟨t, ht, h⟩; exact ⟨t, .inl ht, h⟩
      · rintro ⟨t, ht | rfl, h⟩
        · exact ⟨t, ht, h⟩
        · exact absurd h e
end Go.Proofs.Ytglfcaioapdiaaa.Bk

-- Trees: the law.
namespace Go.Proofs.Ytglfcaioapdiaaa.Bk
open Go Go.RowKit Go.Proofs.Ytglfcaioapdiaaa.Aw
set_option linter.unusedSimpArgs false
set_option linter.unusedVariables false
attribute [local irreducible] AW SQ Step RO RC DE Thn InB
theorem nodup_le : ∀ (l R : List Int), l.Nodup → (∀ x ∈ l, x ∈ R) → l.length ≤ R.length
  | [], _, _, _ => Nat.zero_le _
  | x :: l, R, hd, h => by
    have h2 := List.nodup_cons.1 hd
    have hx := h x List.mem_cons_self
    have ih := nodup_le l (R.erase x) h2.2 fun y hy => (List.mem_erase_of_ne (fun e : y = x => h2.1 (e ▸ hy))).2 (h y (List.mem_cons_of_mem _ hy))
    have := List.length_erase_of_mem hx
    have hp : 0 < R.length := List.length_pos_of_mem hx
    simp only [List.length_cons]
    omega
def itV (n : Int) (ls : List Ln) (ix : List Int) : Bool := bkB n ls && isT n ls ix
set_option maxHeartbeats 4000000 in
theorem implIsTree_ro (n : Int) (ls : List Ln) (ix : List Int) (hn : ls.length ≤ 1048576) (hr : ix.length ≤ 1048576) (k : Nat) : RO Try.prog 41 [.agg (bkL n ls), .dsl 1 (ix.map inL)] k (.v (.bool (itV n ls ix))) [] k := by
  have hok := ValidBackhaul_ro n ls hn
  unfold itV
  cases c1 : bkB n ls with
  | false =>
    refine RO.ofv' Try.func41 Try.ntmps41 rfl (goFn_of Try.func41 rfl (by kernel_rfl)) rfl rfl ?_
    unfold bkL at hok ⊢
    ((repeat' (first
    | (show SQ _ _ _ _ _ _ _ _; first | apply sq_nil | (apply q_move; exact rfl; exact rfl) | (apply q_assign; exact rfl; exact rfl) | (apply q_pick_f; (iterate 3 exact rfl); exact (by first | assumption | exact rfl)) | (apply q_s; (iterate 3 exact rfl); exact (by assumption); exact rfl))
    | (show SQ _ _ _ _ _ _ _ _; (first | (apply q_ldap; exact rfl; exact rfl; exact (ty rfl); exact rfl; exact rfl; exact (by first | rfl | assumption | ((try simp only [Nat.zero_add]); refine List.getElem?_set_self ?_; (try simp only [List.length_set]); assumption)); exact rfl) | (apply q_box; iterate 3 exact rfl) | (apply q_callU; (iterate 3 exact rfl); exact FzL.of rfl; exact hok _)); (try simp only [put, rowsOf, plR, selE, ovr, setH, del, cellsA, splice, isV, spq, if_true, if_false]))
    | (show AW _ _ _ _ _ _ _ _; first | refine aw_region ?_ | (refine aw_seqk ?_; intro K hK) | refine aw_ret ?_)
    | refine thn_n ?_
    | (refine hK _ _ _ ?_; clear hK K))); all_goals (repeat (clear hK K)))
    all_goals refine fin_r (fin_b rfl ?_)
    all_goals simp_all
  | true =>
    obtain ⟨hN, hL⟩ := bkB_in c1
    have hT := isTree_ro n ls ix hN hn hr hL
    refine RO.ofv' Try.func41 Try.ntmps41 rfl (goFn_of Try.func41 rfl (by kernel_rfl)) rfl rfl ?_
    unfold bkL at hok hT ⊢
    ((repeat' (first
    | (show SQ _ _ _ _ _ _ _ _; first | apply sq_nil | (apply q_move; exact rfl; exact rfl) | (apply q_assign; exact rfl; exact rfl) | (apply q_pick_t; (iterate 3 exact rfl); exact (by first | assumption | exact rfl)) | (apply q_g; (iterate 3 exact rfl); exact (by assumption)))
    | (show SQ _ _ _ _ _ _ _ _; (first | (apply q_ldap; exact rfl; exact rfl; exact (ty rfl); exact rfl; exact rfl; exact (by first | rfl | assumption | ((try simp only [Nat.zero_add]); refine List.getElem?_set_self ?_; (try simp only [List.length_set]); assumption)); exact rfl) | (apply q_box; iterate 3 exact rfl) | (apply q_callU; (iterate 3 exact rfl); exact FzL.of rfl; exact hok _) | (apply q_callU; (iterate 3 exact rfl); exact FzL.of rfl; exact hT _)); (try simp only [put, rowsOf, plR, selE, ovr, setH, del, cellsA, splice, isV, spq, if_true, if_false]))
    | (show AW _ _ _ _ _ _ _ _; first | refine aw_region ?_ | (refine aw_seqk ?_; intro K hK) | refine aw_ret ?_)
    | refine thn_n ?_
    | (refine hK _ _ _ ?_; clear hK K))); all_goals (repeat (clear hK K)))
    all_goals refine fin_r (fin_b rfl ?_)
    all_goals simp_all
end Go.Proofs.Ytglfcaioapdiaaa.Bk

namespace Go.Proofs.Ytglfcaioapdiaaa.Bk
open Go Go.RowKit Go.Proofs.Ytglfcaioapdiaaa.Aw
set_option linter.unusedSimpArgs false
set_option linter.unusedVariables false
attribute [local irreducible] AW SQ Step RO RC DE Thn InB
structure Wy where
  p : List Int
  c : Int
  f : Bool
def wyz : Wy := ⟨[], 0, false⟩
def lessL : List Int → List Int → Bool
  | x :: xs, y :: ys => if x = y then lessL xs ys else decide (x < y)
  | _, _ => false
def better (a b : Wy) : Bool := if b.f = false then true else if a.c = b.c then (if (a.p.length : Int) = (b.p.length : Int) then lessL a.p b.p else decide ((a.p.length : Int) < (b.p.length : Int))) else decide (a.c < b.c)
set_option maxHeartbeats 4000000 in
theorem l00Own_ro (xs : List Int) (hx : xs.length ≤ 1048576) (k : Nat) : RO Try.prog 88 [.dsl 1 (xs.map inL)] k (.sl k 0 xs.length) [(k, ⟨2, 1, true, xs.map inL⟩)] (k + 1) := by
  refine RO.ofm (.sl 0 0 xs.length) ([(0, ⟨2, 1, true, xs.map inL⟩)]) 1 Try.func88 Try.ntmps88 rfl (goFn_of Try.func88 rfl (by kernel_rfl)) rfl rfl (by simp [renA, renL]) (by simp [shH, renB]) rfl ?_
  have h1 : (xs.map inL).length = xs.length := List.length_map _
  have hp : ((xs.map inL).all fun r => r.all isV) = true := by simp [inL, isV]
  ((repeat' (first
    | (show SQ _ _ _ _ _ _ _ _; first | apply sq_nil | (apply q_move; exact rfl; exact rfl) | (apply q_assign; exact rfl; exact rfl))
    | (show SQ _ _ _ _ _ _ _ _; (first | (apply q_build0; exact rfl; exact (ty rfl); exact rfl) | (apply q_apo_d; (iterate 3 exact rfl); exact (ty rfl); exact rfl; exact rfl; exact (by first | omega | (simp; done) | (simp; omega)); exact (by first | exact List.take_of_length_le (by first | omega | (simp; done) | (simp; omega)) | rfl); exact (ty rfl); exact rfl; exact rfl; exact (by first | omega | (simp; done) | (simp; omega)); exact (by first | omega | (simp; done) | (simp; omega)); exact (by first | assumption | exact rfl))); (try simp only [put, rowsOf, plR, selE, ovr, setH, del, cellsA, splice, isV, spq, if_true, if_false]))
    | (show AW _ _ _ _ _ _ _ _; first | refine aw_region ?_ | (refine aw_seqk ?_; intro K hK) | refine aw_ret ?_)
    | refine thn_n ?_
    | (refine hK _ _ _ ?_; clear hK K))); all_goals (repeat (clear hK K)))
  all_goals exact fin_r (fin_m rfl rfl _ _ h1 rfl)
end Go.Proofs.Ytglfcaioapdiaaa.Bk

namespace Go.Proofs.Ytglfcaioapdiaaa.Aw
open Go Go.RowKit
set_option linter.unusedVariables false
set_option linter.unusedSimpArgs false
section
variable {P : Program} {H : Hp} {N n g : Nat} {T : Tp} {all : Array Oper} {l : List Oper} {G : Tp → Hp → Nat → Prop}
end
section
variable {P : Program} {N n n' : Nat} {all : Array Oper} {l : List Oper} {G : Tp → Hp → Nat → Prop} {T : Tp} {H : Hp} {bs ks : List Nat} {i : Nat} {eff : List (Nat × List (Nat × Option Blk))} {ty : TypeId} {pos : String} {after : Array Edge} {d : Nat}
end
theorem WkC.same (cv : AV) : WkC cv cv := .inl rfl
theorem WkC.nil (s : Nat) : WkC (.v (.slice none 0 0)) (.dsl s []) := .inr ⟨s, rfl, rfl⟩
end Go.Proofs.Ytglfcaioapdiaaa.Aw

namespace Go.Proofs.Ytglfcaioapdiaaa.Bk
open Go Go.RowKit Go.Proofs.Ytglfcaioapdiaaa.Aw
set_option linter.unusedSimpArgs false
set_option linter.unusedVariables false
attribute [local irreducible] AW SQ Step RO RC DE Thn InB
def nextW (W : List Wy) (x y cost : Int) : Wy := ⟨(W.getD x.toNat wyz).p ++ [y], (W.getD x.toNat wyz).c + cost, true⟩
def relaxW (W : List Wy) (x y cost : Int) : List Wy :=
  if (W.getD x.toNat wyz).f = true ∧ ((W.getD x.toNat wyz).p.any fun z => z == y) = false ∧ better (nextW W x y cost) (W.getD y.toNat wyz) = true then W.set y.toNat (nextW W x y cost) else W
def twoW (W : List Wy) (a b cost : Int) : Nat → List Wy
  | 0 => W
  | 1 => relaxW W a b cost
  | _ => relaxW (relaxW W a b cost) b a cost
def costW (counts : Bool) (l : Ln) : Int := if counts then l.o else 0
def linkW (counts : Bool) (W : List Wy) (l : Ln) (m : Bool) : List Wy := if m then twoW W l.a l.b (costW counts l) 2 else W
def turnW (ls : List Ln) (may : List Bool) (counts : Bool) (W : List Wy) : Nat → List Wy
  | 0 => W
  | i + 1 => linkW counts (turnW ls may counts W i) (ls.getD i lnz) (may.getD i false)
def ways0 (n frm : Int) : List Wy := (List.replicate n.toNat wyz).set frm.toNat ⟨[frm], 0, true⟩
def waysN (n : Int) (ls : List Ln) (may : List Bool) (counts : Bool) (frm : Int) : Nat → List Wy
  | 0 => ways0 n frm
  | t + 1 => turnW ls may counts (waysN n ls may counts frm t) ls.length
def routeW (n : Int) (ls : List Ln) (may : List Bool) (counts : Bool) (frm to : Int) : Wy := (waysN n ls may counts frm n.toNat).getD to.toNat wyz
structure GoodY (n : Int) (w : Wy) : Prop where
  nd : w.p.Nodup
  rng : ∀ x ∈ w.p, 0 ≤ x ∧ x < n
  c0 : 0 ≤ w.c
  c1 : w.c ≤ 1000000 * (w.p.length : Int)
structure GoodW (n : Int) (W : List Wy) : Prop where
  len : W.length = n.toNat
  all : ∀ i, i < n.toNat → GoodY n (W.getD i wyz)
theorem GoodY.z (n : Int) : GoodY n wyz := ⟨List.nodup_nil, by simp [wyz], by simp [wyz], by simp [wyz]⟩
theorem GoodY.le {n : Int} {w : Wy} (hn : 0 ≤ n) (h : GoodY n w) : w.p.length ≤ n.toNat := pigeon _ _ h.nd fun x hx => by have := h.rng x hx; omega
theorem GoodW.at {n : Int} {W : List Wy} (h : GoodW n W) (i : Nat) : GoodY n (W.getD i wyz) := by
  by_cases hi : i < n.toNat
  · exact h.all i hi
  · have : W.getD i wyz = wyz := by simp [List.getD, List.getElem?_eq_none (show W.length ≤ i by rw [h.len]; omega)]
    rw [this]; exact GoodY.z n
theorem GoodW.set {n : Int} {W : List Wy} (h : GoodW n W) (j : Nat) {w : Wy} (hw : GoodY n w) : GoodW n (W.set j w) := by
  refine ⟨by simp [h.len], fun i hi => ?_⟩
  have := h.at i
  simp only [List.getD, List.getElem?_set] at this ⊢
  split
  · split
    · exact hw
    · exact GoodY.z n
  · exact this
def LnsOk (n : Int) (ls : List Ln) : Prop := ∀ l ∈ ls, (0 ≤ l.a ∧ l.a < n) ∧ (0 ≤ l.b ∧ l.b < n) ∧ (0 ≤ l.o ∧ l.o ≤ 1000000)
end Go.Proofs.Ytglfcaioapdiaaa.Bk

namespace Go.Proofs.Ytglfcaioapdiaaa.Bk
open Go
set_option linter.unusedSimpArgs false
set_option linter.unusedVariables false
theorem lessL_irrefl : ∀ p : List Int, lessL p p = false
  | [] => rfl
  | x :: p => by simp only [lessL, if_true]; exact lessL_irrefl p
theorem lessL_nt : ∀ r q p : List Int, r.length = q.length → q.length = p.length → lessL r p = true → lessL r q = true ∨ lessL q p = true
  | [], [], [], _, _, h => by simp [lessL] at h
  | x :: r, y :: q, z :: p, h1, h2, h => by
    have ih := lessL_nt r q p (by simpa using h1) (by simpa using h2)
    simp only [lessL] at h ⊢
    by_cases a : x = z
    · subst a
      rw [if_pos rfl] at h
      by_cases b : x = y
      · subst b; rw [if_pos rfl, if_pos rfl]; exact ih h
      · rw [if_neg b, if_neg (fun e => b e.symm)]
        simp only [decide_eq_true_eq]; omega
    · rw [if_neg a] at h
      simp only [decide_eq_true_eq] at h
      by_cases b : x = y
      · subst b; rw [if_neg a]; right; simpa using h
      · by_cases c : y = z
        · subst c; rw [if_neg b]; left; simpa using h
        · rw [if_neg b, if_neg c]; simp only [decide_eq_true_eq]; omega
theorem lessL_asymm : ∀ p q : List Int, lessL p q = true → lessL q p = false
  | [], [], h => rfl
  | [], _ :: _, h => rfl
  | _ :: _, [], h => rfl
  | x :: p, y :: q, h => by
    simp only [lessL] at h ⊢
    by_cases a : x = y
    · subst a; rw [if_pos rfl] at h ⊢; exact lessL_asymm p q h
    · rw [if_neg a] at h
      rw [if_neg (fun e => a e.symm)]
      simp only [decide_eq_true_eq, decide_eq_false_iff_not] at h ⊢
      omega
theorem lessL_app (y : Int) : ∀ p q : List Int, p.length = q.length → lessL (p ++ [y]) (q ++ [y]) = lessL p q
  | [], [], _ => by simp [lessL]
  | x :: p, z :: q, h => by
    simp only [List.cons_append, lessL]
    rw [lessL_app y p q (by simpa using h)]
def ltK (a b : Wy) : Prop := a.c < b.c ∨ (a.c = b.c ∧ (a.p.length < b.p.length ∨ (a.p.length = b.p.length ∧ lessL a.p b.p = true)))
def leK (a b : Wy) : Prop := ¬ ltK b a
theorem better_iff {a b : Wy} (hb : b.f = true) : better a b = true ↔ ltK a b := by
  unfold better ltK
  rw [hb]
  simp only [Bool.true_eq_false, if_false]
  by_cases h1 : a.c = b.c
  · rw [if_pos h1]
    by_cases h2 : (a.p.length : Int) = (b.p.length : Int)
    · rw [if_pos h2]
      have h3 : a.p.length = b.p.length := by omega
      simp [h1, h3]
    · rw [if_neg h2]
      have h3 : a.p.length ≠ b.p.length := by omega
      simp only [decide_eq_true_eq, h1, h3, false_and, or_false, true_and]
      omega
  · rw [if_neg h1]
    simp [h1]
theorem ltK_le {a b : Wy} (h : ltK a b) : leK a b := by
  intro h2
  unfold ltK at h h2
  rcases h with u | ⟨e, u⟩ <;> rcases h2 with v | ⟨e', v⟩
  · omega
  · omega
  · omega
  · rcases u with u | ⟨el, u⟩ <;> rcases v with v | ⟨el', v⟩
    · omega
    · omega
    · omega
    · rw [lessL_asymm _ _ u] at v; cases v
theorem leK_refl (a : Wy) : leK a a := by
  unfold leK ltK
  rw [lessL_irrefl]
  simp
theorem leK_trans {a b c : Wy} (h1 : leK a b) (h2 : leK b c) : leK a c := by
  intro h
  have : ltK c b ∨ ltK b a := by
    unfold ltK at h ⊢
    rcases h with h | ⟨e, h⟩
    · by_cases q : c.c < b.c
      · exact .inl (.inl q)
      · exact .inr (.inl (by omega))
    · by_cases q : c.c < b.c
      · exact .inl (.inl q)
      by_cases q2 : b.c < a.c
      · exact .inr (.inl q2)
      have e1 : c.c = b.c := by omega
      have e2 : b.c = a.c := by omega
      rcases h with h | ⟨el, h⟩
      · by_cases q3 : c.p.length < b.p.length
        · exact .inl (.inr ⟨e1, .inl q3⟩)
        · exact .inr (.inr ⟨e2, .inl (by omega)⟩)
      · by_cases q3 : c.p.length < b.p.length
        · exact .inl (.inr ⟨e1, .inl q3⟩)
        by_cases q4 : b.p.length < a.p.length
        · exact .inr (.inr ⟨e2, .inl q4⟩)
        have l1 : c.p.length = b.p.length := by omega
        have l2 : b.p.length = a.p.length := by omega
        rcases lessL_nt _ _ _ l1 l2 h with h | h
        · exact .inl (.inr ⟨e1, .inr ⟨l1, h⟩⟩)
        · exact .inr (.inr ⟨e2, .inr ⟨l2, h⟩⟩)
  rcases this with h | h
  · exact h2 h
  · exact h1 h
theorem leK_app {a b : Wy} {y o : Int} {f g : Bool} (h : leK a b) : leK ⟨a.p ++ [y], a.c + o, f⟩ ⟨b.p ++ [y], b.c + o, g⟩ := by
  intro hh
  refine h ?_
  unfold ltK at hh ⊢
  simp only [List.length_append, List.length_singleton] at hh
  rcases hh with hh | ⟨e, hh | ⟨el, hh⟩⟩
  · exact .inl (by omega)
  · exact .inr ⟨by omega, .inl (by omega)⟩
  · rw [lessL_app _ _ _ (by omega)] at hh
    exact .inr ⟨by omega, .inr ⟨by omega, hh⟩⟩
def Lk (ls : List Ln) (may : List Bool) (counts : Bool) (x y o : Int) : Prop := ∃ i, ∃ h : i < ls.length, may.getD i false = true ∧ ((ls[i].a = x ∧ ls[i].b = y) ∨ (ls[i].a = y ∧ ls[i].b = x)) ∧ o = costW counts ls[i]
inductive Pt (E : Int → Int → Int → Prop) (s : Int) : List Int → Int → Int → Prop
  | one : Pt E s [s] 0 s
  | step {p : List Int} {c x y o : Int} (h : Pt E s p c x) (he : E x y o) (hy : y ∉ p) : Pt E s (p ++ [y]) (c + o) y
section
variable {E : Int → Int → Int → Prop} {s : Int}
theorem Pt.ne {p : List Int} {c x : Int} (h : Pt E s p c x) : p ≠ [] := by cases h <;> simp
theorem Pt.last {p : List Int} {c x : Int} (h : Pt E s p c x) : p.getLast? = some x := by cases h <;> simp
theorem Pt.nd {p : List Int} {c x : Int} (h : Pt E s p c x) : p.Nodup := by
  induction h with
  | one => simp
  | step h he hy ih => exact List.nodup_append.2 ⟨ih, by simp, fun a ha b hb => by simp at hb; subst hb; exact fun e => hy (e ▸ ha)⟩
theorem Pt.c0 (hE : ∀ x y o, E x y o → 0 ≤ o) {p : List Int} {c x : Int} (h : Pt E s p c x) : 0 ≤ c := by
  induction h with
  | one => exact Int.le_refl _
  | step h he hy ih => have := hE _ _ _ he; omega
theorem Pt.pre (hE : ∀ x y o, E x y o → 0 ≤ o) {p : List Int} {c x : Int} (h : Pt E s p c x) : ∀ y ∈ p, ∃ q t c', p = q ++ t ∧ Pt E s q c' y ∧ c' ≤ c := by
  induction h with
  | one => intro y hy; simp at hy; subst hy; exact ⟨[y], [], 0, rfl, .one, Int.le_refl _⟩
  | @step p c x z o h he hz ih =>
    intro y hy
    have := hE _ _ _ he
    rcases List.mem_append.1 hy with h1 | h1
    · obtain ⟨q, t, c', e, hq, hc⟩ := ih y h1
      exact ⟨q, t ++ [z], c', by rw [e, List.append_assoc], hq, by omega⟩
    · simp at h1; subst h1
      exact ⟨p ++ [y], [], c + o, by simp, .step h he hz, Int.le_refl _⟩
end
def wAt (W : List Wy) (z : Int) : Wy := W.getD z.toNat wyz
structure IW (E : Int → Int → Int → Prop) (s n : Int) (W : List Wy) : Prop where
  len : W.length = n.toNat
  sound : ∀ x, 0 ≤ x → x < n → (wAt W x).f = true → Pt E s (wAt W x).p (wAt W x).c x
  pre : ∀ x, 0 ≤ x → x < n → (wAt W x).f = true → ∀ y ∈ (wAt W x).p, ∃ q t c', (wAt W x).p = q ++ t ∧ Pt E s q c' y ∧ c' ≤ (wAt W x).c ∧ (wAt W y).f = true ∧ leK (wAt W y) ⟨q, c', true⟩
def LeW (n : Int) (W W' : List Wy) : Prop := ∀ z, 0 ≤ z → z < n → (wAt W z).f = true → (wAt W' z).f = true ∧ leK (wAt W' z) (wAt W z)
theorem LeW.refl (n : Int) (W : List Wy) : LeW n W W := fun z _ _ h => ⟨h, leK_refl _⟩
theorem LeW.trans {n : Int} {W W' W'' : List Wy} (h : LeW n W W') (g : LeW n W' W'') : LeW n W W'' := fun z h0 h1 hf => by
  obtain ⟨a, b⟩ := h z h0 h1 hf
  obtain ⟨c, d⟩ := g z h0 h1 a
  exact ⟨c, leK_trans d b⟩
theorem wAt_set {n : Int} {W : List Wy} (hl : W.length = n.toNat) {y : Int} (hy : 0 ≤ y ∧ y < n) (v : Wy) {z : Int} (hz : 0 ≤ z) (hz1 : z < n) : wAt (W.set y.toNat v) z = if z = y then v else wAt W z := by
  unfold wAt
  simp only [List.getD, List.getElem?_set]
  by_cases e : z = y
  · subst e; simp only [if_true]; rw [if_pos (by omega)]; rfl
  · rw [if_neg (by omega), if_neg e]
section
variable {E : Int → Int → Int → Prop} {s n : Int} (hE : ∀ x y o, E x y o → 0 ≤ o ∧ (0 ≤ x ∧ x < n) ∧ (0 ≤ y ∧ y < n)) (hs : 0 ≤ s ∧ s < n)
include hE hs
theorem Pt.rng {p : List Int} {c x : Int} (h : Pt E s p c x) : (∀ y ∈ p, 0 ≤ y ∧ y < n) ∧ 0 ≤ x ∧ x < n := by
  induction h with
  | one => exact ⟨fun y hy => by simp at hy; subst hy; exact hs, hs⟩
  | step h he hy ih =>
    obtain ⟨_, h1, h2⟩ := hE _ _ _ he
    refine ⟨fun z hz => ?_, h2⟩
    rcases List.mem_append.1 hz with hz | hz
    · exact ih.1 z hz
    · simp at hz; subst hz; exact h2
theorem relax_spec {W : List Wy} (hI : IW E s n W) {x y o : Int} (he : E x y o) : IW E s n (relaxW W x y o) ∧ LeW n W (relaxW W x y o) ∧
    ((wAt W x).f = true → ∀ q c, Pt E s q c x → leK (wAt W x) ⟨q, c, true⟩ → y ∉ q → (wAt (relaxW W x y o) y).f = true ∧ leK (wAt (relaxW W x y o) y) ⟨q ++ [y], c + o, true⟩) := by
  obtain ⟨o0, hx, hy⟩ := hE _ _ _ he
  have hE0 : ∀ x y o, E x y o → 0 ≤ o := fun x y o h => (hE x y o h).1
  by_cases hc : (wAt W x).f = true ∧ ((wAt W x).p.any fun z => z == y) = false ∧ better (nextW W x y o) (wAt W y) = true
  · have e1 : relaxW W x y o = W.set y.toNat (nextW W x y o) := if_pos hc
    obtain ⟨hf, hh, hb⟩ := hc
    have hny : y ∉ (wAt W x).p := by
      simp only [List.any_eq_false, beq_iff_eq] at hh
      exact fun hm => hh y hm rfl
    have hw := hI.sound x hx.1 hx.2 hf
    have hnx : nextW W x y o = ⟨(wAt W x).p ++ [y], (wAt W x).c + o, true⟩ := rfl
    have hP : Pt E s (nextW W x y o).p (nextW W x y o).c y := .step hw he hny
    have hat : ∀ z, 0 ≤ z → z < n → wAt (relaxW W x y o) z = if z = y then nextW W x y o else wAt W z := fun z h0 h1 => by
      rw [e1]; exact wAt_set hI.len hy _ h0 h1
    have hle : LeW n W (relaxW W x y o) := fun z h0 h1 hfz => by
      rw [hat z h0 h1]
      by_cases ez : z = y
      · subst ez
        rw [if_pos rfl]
        exact ⟨rfl, ltK_le ((better_iff hfz).1 hb)⟩
      · rw [if_neg ez]; exact ⟨hfz, leK_refl _⟩
    refine ⟨⟨by rw [e1, List.length_set]; exact hI.len, fun z h0 h1 hfz => ?_, fun z h0 h1 hfz u hu => ?_⟩, hle, fun _ q c hq hle' hyq => ?_⟩
    · rw [hat z h0 h1] at hfz ⊢
      by_cases ez : z = y
      · subst ez; rw [if_pos rfl]; exact hP
      · rw [if_neg ez] at hfz ⊢; exact hI.sound z h0 h1 hfz
    · rw [hat z h0 h1] at hfz hu ⊢
      by_cases ez : z = y
      · subst ez
        rw [if_pos rfl] at hu ⊢
        rw [hnx] at hu ⊢
        rcases List.mem_append.1 hu with hu | hu
        · obtain ⟨q, t, c', g1, g2, g3, g4, g5⟩ := hI.pre x hx.1 hx.2 hf u hu
          have hur := (Pt.rng hE hs hw).1 u hu
          obtain ⟨k1, k2⟩ := hle u hur.1 hur.2 g4
          exact ⟨q, t ++ [z], c', by simp only; rw [g1, List.append_assoc], g2, by simp only; omega, k1, leK_trans k2 g5⟩
        · simp at hu; subst hu
          refine ⟨(wAt W x).p ++ [u], [], (wAt W x).c + o, by simp, hP, Int.le_refl _, ?_, ?_⟩
          · rw [hat u h0 h1, if_pos rfl]; rfl
          · rw [hat u h0 h1, if_pos rfl, hnx]; exact leK_refl _
      · rw [if_neg ez] at hfz hu ⊢
        obtain ⟨q, t, c', g1, g2, g3, g4, g5⟩ := hI.pre z h0 h1 hfz u hu
        have hur := (Pt.rng hE hs (hI.sound z h0 h1 hfz)).1 u hu
        obtain ⟨k1, k2⟩ := hle u hur.1 hur.2 g4
        exact ⟨q, t, c', g1, g2, g3, k1, leK_trans k2 g5⟩
    · rw [hat y hy.1 hy.2, if_pos rfl, hnx]
      exact ⟨rfl, leK_app hle'⟩
  · have e1 : relaxW W x y o = W := if_neg hc
    rw [e1]
    refine ⟨hI, LeW.refl n W, fun hf q c hq hle' hyq => ?_⟩
    have hw := hI.sound x hx.1 hx.2 hf
    by_cases hm : y ∈ (wAt W x).p
    · obtain ⟨q', t, c', g1, g2, g3, g4, g5⟩ := hI.pre x hx.1 hx.2 hf y hm
      refine ⟨g4, leK_trans g5 ?_⟩
      intro hlt
      refine hle' ?_
      have hlen : q'.length ≤ (wAt W x).p.length := by rw [g1, List.length_append]; omega
      unfold ltK at hlt ⊢
      simp only [List.length_append, List.length_singleton] at hlt
      dsimp only at hlt ⊢
      by_cases a1 : c < (wAt W x).c
      · exact .inl a1
      · by_cases a2 : (wAt W x).c < c
        · omega
        · refine .inr ⟨by omega, .inl ?_⟩
          rcases hlt with hlt | ⟨e, hlt | ⟨el, hlt⟩⟩ <;> omega
    · have hh : ((wAt W x).p.any fun z => z == y) = false := by
        simp only [List.any_eq_false, beq_iff_eq]
        exact fun z hz e => hm (e ▸ hz)
      have hb : ¬ better (nextW W x y o) (wAt W y) = true := fun hb => hc ⟨hf, hh, hb⟩
      have hfy : (wAt W y).f = true := by
        cases hfy : (wAt W y).f with
        | true => rfl
        | false => exact absurd (by unfold better; rw [hfy]; simp) hb
      refine ⟨hfy, ?_⟩
      have h1 : leK (wAt W y) (nextW W x y o) := fun h => hb ((better_iff hfy).2 h)
      exact leK_trans h1 (leK_app hle')
theorem turn_spec {ls : List Ln} {may : List Bool} {counts : Bool} (hEd : E = Lk ls may counts) {W : List Wy} (hI : IW E s n W) : ∀ i, i ≤ ls.length → IW E s n (turnW ls may counts W i) ∧ LeW n W (turnW ls may counts W i) ∧
    ∀ j, j < i → ∀ x y o, (∃ h : j < ls.length, may.getD j false = true ∧ ((ls[j].a = x ∧ ls[j].b = y) ∨ (ls[j].a = y ∧ ls[j].b = x)) ∧ o = costW counts ls[j]) → (wAt W x).f = true → ∀ q c, Pt E s q c x → leK (wAt W x) ⟨q, c, true⟩ → y ∉ q →
      (wAt (turnW ls may counts W i) y).f = true ∧ leK (wAt (turnW ls may counts W i) y) ⟨q ++ [y], c + o, true⟩
  | 0, _ => ⟨hI, LeW.refl n W, fun j hj => absurd hj (by omega)⟩
  | i + 1, hi => by
    obtain ⟨g1, g2, g3⟩ := turn_spec hEd hI i (by omega)
    have hil : i < ls.length := by omega
    have hD : ls.getD i lnz = ls[i] := by simp [List.getD, hil]
    generalize hV : turnW ls may counts W i = V at g1 g2 g3
    have hT : turnW ls may counts W (i + 1) = linkW counts V ls[i] (may.getD i false) := by simp only [turnW, hD, hV]
    cases hm : may.getD i false with
    | false =>
      have e1 : turnW ls may counts W (i + 1) = V := by rw [hT, hm]; rfl
      rw [e1]
      refine ⟨g1, g2, fun j hj x y o hl hf q c hq hle hy => ?_⟩
      by_cases hji : j < i
      · exact g3 j hji x y o hl hf q c hq hle hy
      · have : j = i := by omega
        subst this
        obtain ⟨_, hm', _⟩ := hl
        rw [hm] at hm'; cases hm'
    | true =>
      have e1 : turnW ls may counts W (i + 1) = relaxW (relaxW V ls[i].a ls[i].b (costW counts ls[i])) ls[i].b ls[i].a (costW counts ls[i]) := by rw [hT, hm]; rfl
      have k1 : E ls[i].a ls[i].b (costW counts ls[i]) := by rw [hEd]; exact ⟨i, hil, hm, .inl ⟨rfl, rfl⟩, rfl⟩
      have k2 : E ls[i].b ls[i].a (costW counts ls[i]) := by rw [hEd]; exact ⟨i, hil, hm, .inr ⟨rfl, rfl⟩, rfl⟩
      obtain ⟨a1, a2, a3⟩ := relax_spec hE hs g1 k1
      obtain ⟨b1, b2, b3⟩ := relax_spec hE hs a1 k2
      rw [e1]
      generalize relaxW V ls[i].a ls[i].b (costW counts ls[i]) = V1 at a1 a2 a3 b1 b2 b3 ⊢
      generalize relaxW V1 ls[i].b ls[i].a (costW counts ls[i]) = V2 at b1 b2 b3 ⊢
      refine ⟨b1, (g2.trans a2).trans b2, fun j hj x y o hl hf q c hq hle hy => ?_⟩
      have lift : ∀ {A B : List Wy}, LeW n A B → 0 ≤ y → y < n → (wAt A y).f = true ∧ leK (wAt A y) ⟨q ++ [y], c + o, true⟩ → (wAt B y).f = true ∧ leK (wAt B y) ⟨q ++ [y], c + o, true⟩ := fun h h0 h1 ⟨p1, p2⟩ => by
        obtain ⟨r1, r2⟩ := h y h0 h1 p1
        exact ⟨r1, leK_trans r2 p2⟩
      have hxy : E x y o := by obtain ⟨hjl, hmj, hor, ho⟩ := hl; rw [hEd]; exact ⟨j, hjl, hmj, hor, ho⟩
      obtain ⟨_, hx, hyr⟩ := hE _ _ _ hxy
      by_cases hji : j < i
      · exact lift b2 hyr.1 hyr.2 (lift a2 hyr.1 hyr.2 (g3 j hji x y o hl hf q c hq hle hy))
      · have : j = i := by omega
        subst this
        obtain ⟨_, _, hor, ho⟩ := hl
        subst ho
        rcases hor with ⟨ha, hb⟩ | ⟨ha, hb⟩
        · subst ha hb
          obtain ⟨f1, l1⟩ := g2 _ hx.1 hx.2 hf
          exact lift b2 hyr.1 hyr.2 (a3 f1 q c hq (leK_trans l1 hle) hy)
        · subst ha hb
          obtain ⟨f1, l1⟩ := (g2.trans a2) _ hx.1 hx.2 hf
          exact b3 f1 q c hq (leK_trans l1 hle) hy
omit hE in
theorem ways_start (hEd : True) : IW E s n (ways0 n s) ∧ (wAt (ways0 n s) s).f = true ∧ leK (wAt (ways0 n s) s) ⟨[s], 0, true⟩ := by
  have hl : (List.replicate n.toNat wyz).length = n.toNat := by simp
  have hat : ∀ z, 0 ≤ z → z < n → wAt (ways0 n s) z = if z = s then ⟨[s], 0, true⟩ else wyz := fun z h0 h1 => by
    unfold ways0
    rw [wAt_set hl hs _ h0 h1]
    split
    · rfl
    · unfold wAt
      simp only [List.getD, List.getElem?_replicate]
      split <;> rfl
  refine ⟨⟨by simp [ways0], fun x h0 h1 hf => ?_, fun x h0 h1 hf y hy => ?_⟩, ?_, ?_⟩
  · rw [hat x h0 h1] at hf ⊢
    split at hf
    · rename_i e; subst e; rw [if_pos rfl]; exact .one
    · cases hf
  · rw [hat x h0 h1] at hf hy ⊢
    split at hf
    · rename_i e; subst e
      rw [if_pos rfl] at hy ⊢
      simp at hy; subst hy
      exact ⟨[y], [], 0, rfl, .one, Int.le_refl _, by rw [hat y h0 h1, if_pos rfl], by rw [hat y h0 h1, if_pos rfl]; exact leK_refl _⟩
    · cases hf
  · rw [hat s hs.1 hs.2, if_pos rfl]
  · rw [hat s hs.1 hs.2, if_pos rfl]; exact leK_refl _
theorem ways_spec {ls : List Ln} {may : List Bool} {counts : Bool} (hEd : E = Lk ls may counts) : ∀ t, IW E s n (waysN n ls may counts s t) ∧
    ∀ p c y, Pt E s p c y → p.length ≤ t + 1 → (wAt (waysN n ls may counts s t) y).f = true ∧ leK (wAt (waysN n ls may counts s t) y) ⟨p, c, true⟩
  | 0 => by
    obtain ⟨h1, h2, h3⟩ := ways_start (E := E) hs trivial
    refine ⟨h1, fun p c y hp hl => ?_⟩
    cases hp with
    | one => exact ⟨h2, h3⟩
    | step h he hy =>
      have := h.ne
      rename_i p' _ _ _
      cases p' with
      | nil => exact absurd rfl this
      | cons a b => simp at hl
  | t + 1 => by
    obtain ⟨h1, h2⟩ := ways_spec hEd t
    obtain ⟨g1, g2, g3⟩ := turn_spec hE hs hEd h1 ls.length (Nat.le_refl _)
    refine ⟨g1, fun p c y hp hl => ?_⟩
    cases hp with
    | one =>
      obtain ⟨f1, l1⟩ := h2 [s] 0 s .one (by simp)
      obtain ⟨f2, l2⟩ := g2 s hs.1 hs.2 f1
      exact ⟨f2, leK_trans l2 l1⟩
    | @step p c x _ o h he hy =>
      simp only [List.length_append, List.length_singleton] at hl
      obtain ⟨f1, l1⟩ := h2 p c x h (by omega)
      have he' := he
      rw [hEd] at he'
      obtain ⟨i, hi, hm, hor, ho⟩ := he'
      exact g3 i hi x y o ⟨hi, hm, hor, ho⟩ f1 p c h l1 hy
theorem route_spec {ls : List Ln} {may : List Bool} {counts : Bool} (hEd : E = Lk ls may counts) {to : Int} (ht : 0 ≤ to ∧ to < n) :
    ((routeW n ls may counts s to).f = true → Pt E s (routeW n ls may counts s to).p (routeW n ls may counts s to).c to) ∧
    ∀ p c, Pt E s p c to → (routeW n ls may counts s to).f = true ∧ leK (routeW n ls may counts s to) ⟨p, c, true⟩ := by
  obtain ⟨h1, h2⟩ := ways_spec hE hs hEd n.toNat
  refine ⟨fun hf => h1.sound to ht.1 ht.2 hf, fun p c hp => h2 p c to hp ?_⟩
  have := pigeon n.toNat p hp.nd fun x hx => by have := (Pt.rng hE hs hp).1 x hx; omega
  omega
end
end Go.Proofs.Ytglfcaioapdiaaa.Bk

-- How far each node is: the program's rounds, in plain terms.
namespace Go.Proofs.Ytglfcaioapdiaaa.Bk
open Go
set_option linter.unusedSimpArgs false
set_option linter.unusedVariables false
abbrev Far := List (Int × Int × Int)
def fget : Far → Int → Option (Int × Int)
  | [], _ => none
  | (x, v) :: F, k => if k == x then some v else fget F k
def fset : Far → Int → Int × Int → Far
  | [], k, v => [(k, v)]
  | (x, u) :: F, k, v => if k == x then (k, v) :: F else (x, u) :: fset F k v
theorem fget_fset (F : Far) (k : Int) (v : Int × Int) (j : Int) : fget (fset F k v) j = if j = k then some v else fget F j := by
  induction F with
  | nil => simp [fset, fget]
  | cons p F ih =>
    obtain ⟨x, u⟩ := p
    simp only [fset]
    by_cases h : k = x
    · subst h
      simp only [beq_self_eq_true, if_true, fget]
      by_cases hj : j = k
      · simp [hj]
      · simp [hj]
    · have hb : (k == x) = false := by simpa using h
      simp only [hb, Bool.false_eq_true, if_false, fget, ih]
      by_cases hj : j = x
      · subst hj
        have : ¬ j = k := fun e => h e.symm
        simp [this]
      · simp [hj]
def fc (F : Far) (k : Int) : Int := ((fget F k).getD (0, 0)).1
def fl (F : Far) (k : Int) : Int := ((fget F k).getD (0, 0)).2
def fh (F : Far) (k : Int) : Bool := (fget F k).isSome
theorem fget_of {F : Far} {k : Int} (h : fh F k = true) : fget F k = some (fc F k, fl F k) := by
  unfold fh fc fl at *
  cases hg : fget F k with
  | none => rw [hg] at h; cases h
  | some v => rfl
def lessF (a b : Int × Int) : Bool := decide (a.1 < b.1) || (a.1 == b.1 && decide (a.2 < b.2))
def leF (a b : Int × Int) : Prop := a.1 < b.1 ∨ (a.1 = b.1 ∧ a.2 ≤ b.2)
theorem leF_refl (a : Int × Int) : leF a a := .inr ⟨rfl, Int.le_refl _⟩
theorem leF_trans {a b c : Int × Int} (h : leF a b) (g : leF b c) : leF a c := by unfold leF at *; omega
theorem leF_of_less {a b : Int × Int} (h : lessF a b = true) : leF a b := by unfold lessF leF at *; simp at h; omega
theorem leF_of_not {a b : Int × Int} (h : lessF a b = false) : leF b a := by unfold lessF leF at *; simp at h; omega
def fimp (F : Far) (x y o : Int) : Bool := fh F x && (!fh F y || lessF (fc F x + o, fl F x + 1) (fc F y, fl F y))
def fstep (s : Far × Bool) (x y o : Int) : Far × Bool := if fimp s.1 x y o then (fset s.1 y (fc s.1 x + o, fl s.1 x + 1), true) else s
def ftwo (s : Far × Bool) (l : Ln) : Nat → Far × Bool
  | 0 => s
  | 1 => fstep s l.a l.b l.o
  | _ => fstep (fstep s l.a l.b l.o) l.b l.a l.o
def fpass (ls : List Ln) (s : Far × Bool) : Nat → Far × Bool
  | 0 => s
  | i + 1 => ftwo (fpass ls s i) (ls.getD i lnz) 2
def EL (ls : List Ln) (x y o : Int) : Prop := ∃ l ∈ ls, ((l.a = x ∧ l.b = y) ∨ (l.a = y ∧ l.b = x)) ∧ o = l.o
theorem EL.symm {ls : List Ln} {x y o : Int} (h : EL ls x y o) : EL ls y x o := by
  obtain ⟨l, hl, h, e⟩ := h
  exact ⟨l, hl, h.symm, e⟩
theorem EL.ok {n : Int} {ls : List Ln} (hL : LnsOk n ls) {x y o : Int} (h : EL ls x y o) : 0 ≤ o ∧ (0 ≤ x ∧ x < n) ∧ (0 ≤ y ∧ y < n) := by
  obtain ⟨l, hl, h, e⟩ := h
  obtain ⟨h1, h2, h3⟩ := hL l hl
  rcases h with ⟨h, h'⟩ | ⟨h, h'⟩ <;> subst h h' e
  · exact ⟨h3.1, h1, h2⟩
  · exact ⟨h3.1, h2, h1⟩
theorem EL.le {n : Int} {ls : List Ln} (hL : LnsOk n ls) {x y o : Int} (h : EL ls x y o) : o ≤ 1000000 := by
  obtain ⟨l, hl, h, e⟩ := h
  subst e; exact (hL l hl).2.2.2
section
variable {E : Int → Int → Int → Prop} {s : Int}
theorem Pt.c1 {M : Int} (hE : ∀ x y o, E x y o → o ≤ M) {p : List Int} {c x : Int} (h : Pt E s p c x) : c ≤ M * ((p.length : Int) - 1) := by
  induction h with
  | one => simp
  | step h he hy ih =>
    have := hE _ _ _ he
    simp only [List.length_append, List.length_singleton]
    rw [Int.natCast_add, show ∀ L : Int, L + ((1 : Nat) : Int) - 1 = (L - 1) + 1 from fun L => by omega, Int.mul_add, Int.mul_one]
    omega
structure FG (E : Int → Int → Int → Prop) (s n : Int) (F : Far) : Prop where
  pth : ∀ x c l, fget F x = some (c, l) → ∃ p, Pt E s p c x ∧ (p.length : Int) = l + 1 ∧ ∀ y ∈ p, ∃ q t c', p = q ++ t ∧ Pt E s q c' y ∧ c' ≤ c ∧ ∃ v, fget F y = some v ∧ leF v (c', (q.length : Int) - 1)
  st : ∃ v, fget F s = some v ∧ leF v (0, 0)
variable {n : Int} (hE : ∀ x y o, E x y o → 0 ≤ o ∧ (0 ≤ x ∧ x < n) ∧ (0 ≤ y ∧ y < n)) (hs : 0 ≤ s ∧ s < n)
include hE hs
theorem FG.bd (hM : ∀ x y o, E x y o → o ≤ 1000000) (hn : n ≤ 12) {F : Far} (h : FG E s n F) {x c l : Int} (hg : fget F x = some (c, l)) : 0 ≤ c ∧ c ≤ 12000000 ∧ 0 ≤ l ∧ l ≤ 11 ∧ 0 ≤ x ∧ x < n := by
  obtain ⟨p, hp, hl, _⟩ := h.pth x c l hg
  have h0 := hp.c0 (fun x y o h => (hE x y o h).1)
  have h1 := hp.c1 hM
  have h2 := Pt.rng hE hs hp
  have h3 := pigeon n.toNat p hp.nd fun y hy => by have := h2.1 y hy; omega
  have h4 : p.length ≠ 0 := fun e => hp.ne (List.length_eq_zero_iff.1 e)
  refine ⟨h0, ?_, by omega, by omega, h2.2⟩
  omega
theorem FG.bc (hM : ∀ x y o, E x y o → o ≤ 1000000) (hn : n ≤ 12) {F : Far} (h : FG E s n F) (x : Int) : 0 ≤ fc F x ∧ fc F x ≤ 12000000 ∧ 0 ≤ fl F x ∧ fl F x ≤ 11 := by
  cases hg : fget F x with
  | none => simp [fc, fl, hg]
  | some v =>
    have := FG.bd hE hs hM hn h (c := v.1) (l := v.2) (by rw [hg])
    simp only [fc, fl, hg, Option.getD_some]
    omega
omit hs in
theorem FG.step {F : Far} (h : FG E s n F) {x y o : Int} (he : E x y o) (hi : fimp F x y o = true) : FG E s n (fset F y (fc F x + o, fl F x + 1)) ∧ (∀ z v, fget F z = some v → ∃ v', fget (fset F y (fc F x + o, fl F x + 1)) z = some v' ∧ leF v' v) := by
  simp only [fimp, Bool.and_eq_true, Bool.or_eq_true, Bool.not_eq_true'] at hi
  obtain ⟨hx, hi⟩ := hi
  have hgx := fget_of hx
  obtain ⟨p, hp, hl, hpre⟩ := h.pth x _ _ hgx
  have o0 := (hE _ _ _ he).1
  have hold : ∀ v, fget F y = some v → lessF (fc F x + o, fl F x + 1) v = true := fun v hv => by
    rcases hi with hi | hi
    · unfold fh at hi; rw [hv] at hi; cases hi
    · have : v = (fc F y, fl F y) := by simp [fc, fl, hv]
      rw [this]; exact hi
  have hy : y ∉ p := fun hm => by
    obtain ⟨q, t, c', e, hq, hc, v, hv, hle⟩ := hpre y hm
    have h1 := hold v hv
    have h2 : q.length ≤ p.length := by rw [e]; simp
    unfold lessF leF at *
    simp only [Bool.or_eq_true, Bool.and_eq_true, decide_eq_true_eq, beq_iff_eq] at h1 hle
    omega
  have mono : ∀ z v, fget F z = some v → ∃ v', fget (fset F y (fc F x + o, fl F x + 1)) z = some v' ∧ leF v' v := fun z v hv => by
    rw [fget_fset]
    by_cases hz : z = y
    · subst hz; rw [if_pos rfl]; exact ⟨_, rfl, leF_of_less (hold v hv)⟩
    · rw [if_neg hz]; exact ⟨v, hv, leF_refl v⟩
  refine ⟨⟨fun z c l hz => ?_, ?_⟩, mono⟩
  · rw [fget_fset] at hz
    by_cases hzy : z = y
    · subst hzy
      rw [if_pos rfl] at hz
      simp only [Option.some.injEq, Prod.mk.injEq] at hz
      obtain ⟨rfl, rfl⟩ := hz
      refine ⟨p ++ [z], .step hp he hy, by simp; omega, fun u hu => ?_⟩
      rcases List.mem_append.1 hu with hu | hu
      · obtain ⟨q, t, c', e, hq, hc, v, hv, hle⟩ := hpre u hu
        obtain ⟨v', hv', hle'⟩ := mono u v hv
        exact ⟨q, t ++ [z], c', by rw [e, List.append_assoc], hq, by omega, v', hv', leF_trans hle' hle⟩
      · simp at hu; subst hu
        exact ⟨p ++ [u], [], fc F x + o, by simp, .step hp he hy, Int.le_refl _, (fc F x + o, fl F x + 1), by rw [fget_fset, if_pos rfl], .inr ⟨rfl, by simp only [List.length_append, List.length_singleton]; omega⟩⟩
    · rw [if_neg hzy] at hz
      obtain ⟨p', hp', hl', hpre'⟩ := h.pth z c l hz
      refine ⟨p', hp', hl', fun u hu => ?_⟩
      obtain ⟨q, t, c', e, hq, hc, v, hv, hle⟩ := hpre' u hu
      obtain ⟨v', hv', hle'⟩ := mono u v hv
      exact ⟨q, t, c', e, hq, hc, v', hv', leF_trans hle' hle⟩
  · obtain ⟨v, hv, hle⟩ := h.st
    obtain ⟨v', hv', hle'⟩ := mono s v hv
    exact ⟨v', hv', leF_trans hle' hle⟩
omit hE hs in
theorem FG.start : FG E s n [(s, 0, 0)] := by
  refine ⟨fun x c l h => ?_, ⟨(0, 0), by simp [fget], leF_refl _⟩⟩
  simp only [fget] at h
  split at h
  · rename_i e
    simp only [beq_iff_eq] at e
    subst e
    simp only [Option.some.injEq, Prod.mk.injEq] at h
    obtain ⟨rfl, rfl⟩ := h
    refine ⟨[x], .one, by simp, fun y hy => ?_⟩
    simp at hy; subst hy
    exact ⟨[y], [], 0, rfl, .one, Int.le_refl _, (0, 0), by simp [fget], .inr ⟨rfl, by simp⟩⟩
  · cases h
def mu1 : Option (Int × Int) → Nat
  | none => 2 ^ 40
  | some (c, l) => (c * 64 + l).toNat
def mu (n : Int) (F : Far) : Nat := ((List.range n.toNat).map fun (i : Nat) => mu1 (fget F (i : Int))).sum
omit hE hs in
theorem sum_le {f g : Nat → Nat} : ∀ l : List Nat, (∀ i ∈ l, f i ≤ g i) → (l.map f).sum ≤ (l.map g).sum
  | [], _ => Nat.le_refl _
  | i :: l, h => by
    have h1 := h i List.mem_cons_self
    have h2 := sum_le l fun j hj => h j (List.mem_cons_of_mem _ hj)
    simp only [List.map_cons, List.sum_cons]
    omega
omit hE hs in
theorem sum_lt {f g : Nat → Nat} : ∀ l : List Nat, (∀ i ∈ l, f i ≤ g i) → (∃ i ∈ l, f i < g i) → (l.map f).sum < (l.map g).sum
  | [], _, h => by obtain ⟨i, hi, _⟩ := h; cases hi
  | i :: l, h, hx => by
    have h1 := h i List.mem_cons_self
    have h2 := sum_le l fun j hj => h j (List.mem_cons_of_mem _ hj)
    simp only [List.map_cons, List.sum_cons]
    obtain ⟨j, hj, hlt⟩ := hx
    rcases List.mem_cons.1 hj with rfl | hj
    · omega
    · have := sum_lt l (fun j hj => h j (List.mem_cons_of_mem _ hj)) ⟨j, hj, hlt⟩
      omega
theorem FG.mu_lt (hM : ∀ x y o, E x y o → o ≤ 1000000) (hn : n ≤ 12) {F : Far} (h : FG E s n F) {x y o : Int} (he : E x y o) (hi : fimp F x y o = true) : mu n (fset F y (fc F x + o, fl F x + 1)) < mu n F := by
  obtain ⟨o0, hx, hy⟩ := hE _ _ _ he
  have bx := FG.bc hE hs hM hn h x
  have by_ := FG.bc hE hs hM hn h y
  have oM := hM _ _ _ he
  have key : mu1 (some (fc F x + o, fl F x + 1)) < mu1 (fget F y) := by
    simp only [fimp, Bool.and_eq_true, Bool.or_eq_true, Bool.not_eq_true'] at hi
    rcases hi.2 with hi | hi
    · have : fget F y = none := by unfold fh at hi; simpa using hi
      rw [this]; simp only [mu1]; omega
    · cases hf : fh F y with
      | false =>
        have : fget F y = none := by unfold fh at hf; simpa using hf
        rw [this]; simp only [mu1]; omega
      | true =>
        rw [fget_of hf]
        simp only [mu1]
        unfold lessF at hi
        simp only [Bool.or_eq_true, Bool.and_eq_true, decide_eq_true_eq, beq_iff_eq] at hi
        omega
  refine sum_lt _ (fun i hi' => ?_) ⟨y.toNat, List.mem_range.2 (by omega), ?_⟩
  · rw [fget_fset]
    split
    · rename_i e; rw [e]; omega
    · exact Nat.le_refl _
  · rw [fget_fset, if_pos (by omega), show ((y.toNat : Nat) : Int) = y by omega]
    exact key
end
end Go.Proofs.Ytglfcaioapdiaaa.Bk

-- How far each node is: where the rounds end; the way along it.
namespace Go.Proofs.Ytglfcaioapdiaaa.Bk
open Go
set_option linter.unusedSimpArgs false
set_option linter.unusedVariables false
section
variable {n s : Int} {ls : List Ln} (hL : LnsOk n ls) (hn : n ≤ 12) (hs : 0 ≤ s ∧ s < n)
structure FS (n s : Int) (ls : List Ln) (F : Far) (st : Far × Bool) : Prop where
  good : FG (EL ls) s n st.1
  up : st.2 = true → mu n st.1 < mu n F
  same : st.2 = false → st.1 = F
include hL hn hs
theorem FS.step {F : Far} {st : Far × Bool} (h : FS n s ls F st) {x y o : Int} (he : EL ls x y o) : FS n s ls F (fstep st x y o) := by
  unfold fstep
  split
  · rename_i hi
    have hE := fun x y o (h : EL ls x y o) => EL.ok hL h
    refine ⟨(FG.step hE h.good he hi).1, fun _ => ?_, fun h => by cases h⟩
    have h1 := FG.mu_lt hE hs (fun x y o h => EL.le hL h) hn h.good he hi
    cases hb : st.2 with
    | true => have := h.up hb; simp only at h1 ⊢; omega
    | false => have := h.same hb; simp only; rw [this] at h1 ⊢; exact h1
  · exact h
omit hL hn hs in
theorem EL.of {l : Ln} (h : l ∈ ls) : EL ls l.a l.b l.o := ⟨l, h, .inl ⟨rfl, rfl⟩, rfl⟩
theorem FS.two {F : Far} {st : Far × Bool} (h : FS n s ls F st) {l : Ln} (hl : l ∈ ls) : ∀ k, FS n s ls F (ftwo st l k)
  | 0 => h
  | 1 => FS.step hL hn hs h (EL.of hl)
  | _ + 2 => FS.step hL hn hs (FS.step hL hn hs h (EL.of hl)) (EL.of hl).symm
theorem FS.pass {F : Far} {st : Far × Bool} (h : FS n s ls F st) : ∀ i, i ≤ ls.length → FS n s ls F (fpass ls st i)
  | 0, _ => h
  | i + 1, hi => by
    have : ls.getD i lnz ∈ ls := by simp [List.getD, show i < ls.length by omega]
    exact FS.two hL hn hs (FS.pass h i (by omega)) this 2
omit hL hn hs in
theorem fstep_up {st : Far × Bool} {x y o : Int} (h : (fstep st x y o).2 = false) : st.2 = false ∧ fimp st.1 x y o = false ∧ fstep st x y o = st := by
  unfold fstep at h ⊢
  cases hi : fimp st.1 x y o with
  | true => rw [hi] at h; simp at h
  | false => rw [hi] at h; simpa using h
omit hL hn hs in
theorem fpass_fix {st : Far × Bool} : ∀ i, i ≤ ls.length → (fpass ls st i).2 = false → st.2 = false ∧ fpass ls st i = st ∧ ∀ j, j < i → fimp st.1 (ls.getD j lnz).a (ls.getD j lnz).b (ls.getD j lnz).o = false ∧ fimp st.1 (ls.getD j lnz).b (ls.getD j lnz).a (ls.getD j lnz).o = false
  | 0, _, h => ⟨h, rfl, fun j hj => absurd hj (Nat.not_lt_zero _)⟩
  | i + 1, hi, h => by
    simp only [fpass, ftwo] at h ⊢
    obtain ⟨a1, a2, a3⟩ := fstep_up h
    obtain ⟨b1, b2, b3⟩ := fstep_up a1
    obtain ⟨c1, c2, c3⟩ := fpass_fix i (by omega) b1
    rw [a3, b3, c2]
    rw [b3, c2] at a2
    rw [c2] at b2
    refine ⟨c1, rfl, fun j hj => ?_⟩
    by_cases e : j = i
    · subst e; exact ⟨b2, a2⟩
    · exact c3 j (by omega)
def farF (ls : List Ln) : Nat → Far → Far
  | 0, F => F
  | k + 1, F => if (fpass ls (F, false) ls.length).2 = true then farF ls k (fpass ls (F, false) ls.length).1 else (fpass ls (F, false) ls.length).1
def Fix (ls : List Ln) (F : Far) : Prop := ∀ x y o, EL ls x y o → fimp F x y o = false
omit hL hn hs in
theorem fix_of {F : Far} (h : (fpass ls (F, false) ls.length).2 = false) : Fix ls F := fun x y o he => by
  obtain ⟨l, hl, hor, ho⟩ := he
  obtain ⟨_, _, h3⟩ := fpass_fix ls.length (Nat.le_refl _) h
  obtain ⟨i, hi, e⟩ := List.getElem_of_mem hl
  have := h3 i hi
  have hD : ls.getD i lnz = l := by simp [List.getD, hi, e]
  rw [hD] at this
  subst ho
  rcases hor with ⟨h1, h2⟩ | ⟨h1, h2⟩ <;> subst h1 h2
  · exact this.1
  · exact this.2
theorem farF_spec : ∀ (k : Nat) (F : Far), FG (EL ls) s n F → mu n F < k → FG (EL ls) s n (farF ls k F) ∧ Fix ls (farF ls k F)
  | 0, F, _, h => absurd h (Nat.not_lt_zero _)
  | k + 1, F, hF, h => by
    have hp := FS.pass hL hn hs (F := F) (st := (F, false)) ⟨hF, fun h => (by cases h), fun _ => rfl⟩ ls.length (Nat.le_refl _)
    unfold farF
    split
    · rename_i hb
      have := hp.up hb
      exact farF_spec k _ hp.good (by omega)
    · rename_i hb
      have hb' : (fpass ls (F, false) ls.length).2 = false := by simpa using hb
      have e := hp.same hb'
      rw [e]
      exact ⟨hF, fix_of hb'⟩
def farR (n : Int) (ls : List Ln) (s : Int) : Far := farF ls (mu n [(s, 0, 0)] + 1) [(s, 0, 0)]
theorem farR_spec : FG (EL ls) s n (farR n ls s) ∧ Fix ls (farR n ls s) := farF_spec hL hn hs _ _ FG.start (Nat.lt_succ_self _)
omit hL hn hs in
theorem far_least {F : Far} (hF : FG (EL ls) s n F) (hx : Fix ls F) {p : List Int} {c x : Int} (h : Pt (EL ls) s p c x) : ∃ v, fget F x = some v ∧ leF v (c, (p.length : Int) - 1) := by
  induction h with
  | one =>
    obtain ⟨v, hv, hle⟩ := hF.st
    exact ⟨v, hv, by simpa using hle⟩
  | @step p c x y o h he hy ih =>
    obtain ⟨v, hv, hle⟩ := ih
    have hf := hx x y o he
    have hh : fh F x = true := by unfold fh; rw [hv]; rfl
    have hvx : v = (fc F x, fl F x) := by have := fget_of hh; rw [hv] at this; simpa using this
    simp only [fimp, hh, Bool.true_and, Bool.or_eq_false_iff, Bool.not_eq_false'] at hf
    obtain ⟨hy1, hl⟩ := hf
    refine ⟨_, fget_of hy1, leF_trans (leF_of_not hl) ?_⟩
    rw [hvx] at hle
    unfold leF at *
    simp only [List.length_append, List.length_singleton]
    omega
end
theorem Pt.cons {E : Int → Int → Int → Prop} {x y o : Int} {p : List Int} {c t : Int} (h : Pt E x p c t) (he : E y x o) (hy : y ∉ p) : Pt E y (y :: p) (o + c) t := by
  induction h with
  | one =>
    have : Pt E y ([y] ++ [x]) (0 + o) x := .step .one he (by simp at hy ⊢; exact fun e => hy e.symm)
    simpa using this
  | @step p c u v o' h he' hv ih =>
    have hyp : y ∉ p := fun hm => hy (List.mem_append_left _ hm)
    have hyv : v ≠ y := fun e => hy (by rw [e]; simp)
    have := Pt.step (ih hyp) he' (y := v) (by simp [hv, hyv])
    rw [← Int.add_assoc]
    exact this
theorem Pt.rev {E : Int → Int → Int → Prop} (hS : ∀ x y o, E x y o → E y x o) {s : Int} {p : List Int} {c t : Int} (h : Pt E s p c t) : Pt E t p.reverse c s := by
  induction h with
  | one => exact .one
  | @step p c x y o h he hy ih =>
    rw [List.reverse_append, List.reverse_singleton, List.singleton_append, Int.add_comm]
    exact Pt.cons ih (hS _ _ _ he) (by simpa using hy)
theorem Pt.head {E : Int → Int → Int → Prop} {s : Int} {p : List Int} {c t : Int} (h : Pt E s p c t) : (p = [s] ∧ c = 0 ∧ t = s) ∨ ∃ y o c' q, p = s :: q ∧ E s y o ∧ c = o + c' ∧ Pt E y q c' t ∧ s ∉ q := by
  induction h with
  | one => exact .inl ⟨rfl, rfl, rfl⟩
  | @step p c x y o h he hy ih =>
    rcases ih with ⟨rfl, rfl, rfl⟩ | ⟨y1, o1, c1, q, rfl, he1, rfl, hq, hsq⟩
    · exact .inr ⟨y, o, 0, [y], rfl, he, by omega, .one, by simp at hy ⊢; exact fun e => hy e.symm⟩
    · simp only [List.mem_cons, not_or] at hy
      refine .inr ⟨y1, o1, c1 + o, q ++ [y], by simp, he1, by omega, .step hq he hy.2, ?_⟩
      simp only [List.mem_append, List.mem_singleton, not_or]
      exact ⟨hsq, fun e => hy.1 e.symm⟩
end Go.Proofs.Ytglfcaioapdiaaa.Bk

-- The way along the distances, in plain terms: it is the best route.
namespace Go.Proofs.Ytglfcaioapdiaaa.Bk
open Go
set_option linter.unusedSimpArgs false
set_option linter.unusedVariables false
def gok (F : Far) (x : Int) (l : Ln) : Bool := othB x l && (fc F (othV x l) + l.o == fc F x && fl F (othV x l) + 1 == fl F x)
def gst (F : Far) (x : Int) (b : Int) (l : Ln) : Int := if gok F x l then min b (othV x l) else b
def gmin (F : Far) (n x : Int) (ls : List Ln) (i : Nat) : Int := (ls.take i).foldl (gst F x) n
theorem gfold_le (F : Far) (x : Int) : ∀ (ls : List Ln) (b : Int), ls.foldl (gst F x) b ≤ b ∧ ∀ l ∈ ls, gok F x l = true → ls.foldl (gst F x) b ≤ othV x l
  | [], b => ⟨Int.le_refl _, by simp⟩
  | l :: ls, b => by
    obtain ⟨h1, h2⟩ := gfold_le F x ls (gst F x b l)
    have h3 : gst F x b l ≤ b := by unfold gst; split <;> omega
    refine ⟨by simp only [List.foldl_cons]; omega, fun z hz hk => ?_⟩
    simp only [List.foldl_cons]
    rcases List.mem_cons.1 hz with e | hz
    · subst e
      have : gst F x b z ≤ othV x z := by unfold gst; rw [hk]; simp only [if_true]; omega
      omega
    · exact h2 z hz hk
theorem gfold_in (F : Far) (x : Int) : ∀ (ls : List Ln) (b : Int), ls.foldl (gst F x) b = b ∨ ∃ l ∈ ls, gok F x l = true ∧ ls.foldl (gst F x) b = othV x l
  | [], b => .inl rfl
  | l :: ls, b => by
    simp only [List.foldl_cons]
    rcases gfold_in F x ls (gst F x b l) with h | ⟨z, hz, hk, e⟩
    · rw [h]
      unfold gst
      split
      · rename_i hk
        by_cases hb : b ≤ othV x l
        · exact .inl (by omega)
        · exact .inr ⟨l, List.mem_cons_self, hk, by omega⟩
      · exact .inl rfl
    · exact .inr ⟨z, List.mem_cons_of_mem _ hz, hk, e⟩
theorem EL.oth {ls : List Ln} {x : Int} {l : Ln} (hl : l ∈ ls) (h : othB x l = true) : EL ls x (othV x l) l.o := by
  simp only [othB, Bool.or_eq_true, beq_iff_eq] at h
  refine ⟨l, hl, ?_, rfl⟩
  unfold othV
  grind
theorem oth_of {ls : List Ln} {x y o : Int} (h : EL ls x y o) : ∃ l ∈ ls, othB x l = true ∧ othV x l = y ∧ l.o = o := by
  obtain ⟨l, hl, hor, e⟩ := h
  refine ⟨l, hl, ?_, ?_, e.symm⟩
  · unfold othB; grind
  · unfold othV; grind
section
variable {n to : Int} {ls : List Ln} {F : Far}
structure FW (n to : Int) (ls : List Ln) (F : Far) : Prop where
  ok : LnsOk n ls
  n12 : n ≤ 12
  rt : 0 ≤ to ∧ to < n
  good : FG (EL ls) to n F
  fix : Fix ls F
theorem FW.of (hL : LnsOk n ls) (hn : n ≤ 12) (ht : 0 ≤ to ∧ to < n) : FW n to ls (farR n ls to) := ⟨hL, hn, ht, (farR_spec hL hn ht).1, (farR_spec hL hn ht).2⟩
variable (h : FW n to ls F)
include h
theorem FW.bd {x : Int} (hx : fh F x = true) : 0 ≤ fc F x ∧ fc F x ≤ 12000000 ∧ 0 ≤ fl F x ∧ fl F x ≤ 11 ∧ 0 ≤ x ∧ x < n :=
  FG.bd (fun _ _ _ => EL.ok h.ok) h.rt (fun _ _ _ => EL.le h.ok) h.n12 h.good (fget_of hx)
theorem FW.bc (x : Int) : 0 ≤ fc F x ∧ fc F x ≤ 12000000 ∧ 0 ≤ fl F x ∧ fl F x ≤ 11 :=
  FG.bc (fun _ _ _ => EL.ok h.ok) h.rt (fun _ _ _ => EL.le h.ok) h.n12 h.good x
theorem FW.at0 : fh F to = true ∧ fc F to = 0 ∧ fl F to = 0 := by
  obtain ⟨v, hv, hle⟩ := h.good.st
  have hh : fh F to = true := by unfold fh; rw [hv]; rfl
  have hb := h.bd hh
  have e : v = (fc F to, fl F to) := by have := fget_of hh; rw [hv] at this; simpa using this
  rw [e] at hle
  unfold leF at hle
  simp only at hle
  exact ⟨hh, by omega, by omega⟩
theorem FW.zero {x : Int} (hx : fh F x = true) (h0 : fl F x = 0) : x = to := by
  obtain ⟨p, hp, hl, _⟩ := h.good.pth x _ _ (fget_of hx)
  rcases hp.head with ⟨_, _, e⟩ | ⟨y, o, c', q, e, _, _, hq, _⟩
  · exact e
  · have := hq.ne
    have h1 : q.length ≠ 0 := fun e => this (List.length_eq_zero_iff.1 e)
    rw [e] at hl
    simp only [List.length_cons] at hl
    omega
theorem FW.ne {x : Int} (hx : fh F x = true) (h0 : 0 < fl F x) : x ≠ to := fun e => by rw [e] at h0; have := h.at0.2.2; omega
theorem FW.cand {x : Int} (hx : fh F x = true) (h0 : 0 < fl F x) : ∃ l ∈ ls, gok F x l = true := by
  obtain ⟨p, hp, hl, _⟩ := h.good.pth x _ _ (fget_of hx)
  generalize hcx : fc F x = cx at hp
  cases hp with
  | one => simp at hl; omega
  | @step p c z _ o hp he hy =>
    obtain ⟨v, hv, hle⟩ := far_least h.good h.fix hp
    have hz : fh F z = true := by unfold fh; rw [hv]; rfl
    have ev : v = (fc F z, fl F z) := by have := fget_of hz; rw [hv] at this; simpa using this
    have hf := h.fix z x o he
    simp only [fimp, hz, hx, Bool.true_and, Bool.not_true, Bool.false_or] at hf
    have hle2 := leF_of_not hf
    obtain ⟨l, hl', g1, g2, g3⟩ := oth_of he.symm
    refine ⟨l, hl', ?_⟩
    simp only [List.length_append, List.length_singleton] at hl
    rw [ev] at hle
    unfold leF at hle hle2
    simp only at hle hle2
    simp only [gok, g1, g2, g3, Bool.true_and, Bool.and_eq_true, beq_iff_eq]
    omega
theorem FW.next {x : Int} (hx : fh F x = true) (h0 : 0 < fl F x) : ∃ l ∈ ls, gok F x l = true ∧ gmin F n x ls ls.length = othV x l ∧ (∀ l' ∈ ls, gok F x l' = true → gmin F n x ls ls.length ≤ othV x l') := by
  obtain ⟨l, hl, hk⟩ := h.cand hx h0
  obtain ⟨h1, h2⟩ := gfold_le F x ls n
  have e : gmin F n x ls ls.length = ls.foldl (gst F x) n := by rw [gmin, List.take_length]
  rw [e]
  rcases gfold_in F x ls n with h3 | ⟨l', hl', hk', e'⟩
  · have := h2 l hl hk
    have h4 := (EL.ok h.ok (EL.oth hl (by simp only [gok, Bool.and_eq_true] at hk; exact hk.1))).2.2.2
    omega
  · exact ⟨l', hl', hk', e', h2⟩
theorem FW.step {x : Int} (hx : fh F x = true) {l : Ln} (hl : l ∈ ls) (hk : gok F x l = true) : EL ls x (othV x l) l.o ∧ fh F (othV x l) = true ∧ fc F (othV x l) + l.o = fc F x ∧ fl F (othV x l) + 1 = fl F x := by
  simp only [gok, Bool.and_eq_true, beq_iff_eq] at hk
  have he := EL.oth hl hk.1
  refine ⟨he, ?_, hk.2.1, hk.2.2⟩
  have hf := h.fix _ _ _ he
  simp only [fimp, hx, Bool.true_and, Bool.or_eq_false_iff, Bool.not_eq_false'] at hf
  exact hf.1
end
def gat (F : Far) (n : Int) (ls : List Ln) (frm : Int) : Nat → Int
  | 0 => frm
  | k + 1 => gmin F n (gat F n ls frm k) ls ls.length
def rlist (F : Far) (n : Int) (ls : List Ln) (frm : Int) (k : Nat) : List Int := (List.range (k + 1)).map (gat F n ls frm)
theorem rlist_cons (F : Far) (n : Int) (ls : List Ln) (frm : Int) (k : Nat) : rlist F n ls frm (k + 1) = frm :: rlist F n ls (gat F n ls frm 1) k := by
  have : ∀ j, gat F n ls frm (j + 1) = gat F n ls (gat F n ls frm 1) j := fun j => by
    induction j with
    | zero => rfl
    | succ j ih => rw [gat, ih]; rfl
  unfold rlist
  rw [List.range_succ_eq_map, List.map_cons, List.map_map]
  congr 1
  refine List.map_congr_left fun j _ => ?_
  simp only [Function.comp, Nat.succ_eq_add_one]
  exact this j
section
variable {n to : Int} {ls : List Ln} {F : Far} (h : FW n to ls F)
include h
theorem FW.at {frm : Int} (hf : fh F frm = true) : ∀ k : Nat, (k : Int) ≤ fl F frm → fh F (gat F n ls frm k) = true ∧ fl F (gat F n ls frm k) = fl F frm - k
  | 0, _ => ⟨hf, by simp [gat]⟩
  | k + 1, hk => by
    obtain ⟨h1, h2⟩ := FW.at hf k (by omega)
    obtain ⟨l, hl, hg, e, _⟩ := h.next h1 (by omega)
    obtain ⟨_, s2, _, s4⟩ := h.step h1 hl hg
    rw [gat, e]
    exact ⟨s2, by omega⟩
theorem FW.way : ∀ (k : Nat) {frm : Int}, fh F frm = true → fl F frm = k → Pt (EL ls) frm (rlist F n ls frm k) (fc F frm) to ∧ ∀ y ∈ rlist F n ls frm k, fh F y = true ∧ fl F y ≤ k
  | 0, frm, hf, h0 => by
    have e := h.zero hf (by omega)
    subst e
    rw [h.at0.2.1]
    refine ⟨.one, fun y hy => ?_⟩
    simp [rlist, gat] at hy
    subst hy
    exact ⟨hf, by omega⟩
  | k + 1, frm, hf, h0 => by
    obtain ⟨l, hl, hg, e, _⟩ := h.next hf (by omega)
    obtain ⟨s1, s2, s3, s4⟩ := h.step hf hl hg
    have e1 : gat F n ls frm 1 = othV frm l := e
    obtain ⟨g1, g2⟩ := FW.way k s2 (by omega)
    rw [rlist_cons, e1]
    refine ⟨?_, fun y hy => ?_⟩
    · have := Pt.cons g1 s1 (fun hm => by have := (g2 frm hm).2; omega)
      rw [show fc F frm = l.o + fc F (othV frm l) by omega]
      exact this
    · rcases List.mem_cons.1 hy with rfl | hy
      · exact ⟨hf, by omega⟩
      · exact ⟨(g2 y hy).1, by have := (g2 y hy).2; omega⟩
theorem FW.first : ∀ (k : Nat) {frm : Int} {p : List Int} {c : Int}, fh F frm = true → fl F frm = k → Pt (EL ls) frm p c to → c = fc F frm → p.length = k + 1 → lessL p (rlist F n ls frm k) = false
  | 0, frm, p, c, hf, h0, hp, hc, hl => by
    rcases hp.head with ⟨e, _, _⟩ | ⟨y, o, c', q, e, _, _, hq, _⟩
    · subst e; simp [rlist, gat, lessL]
    · have h1 : q.length ≠ 0 := fun e => hq.ne (List.length_eq_zero_iff.1 e)
      rw [e] at hl; simp at hl; exact absurd hl (by simpa using h1)
  | k + 1, frm, p, c, hf, h0, hp, hc, hl => by
    rcases hp.head with ⟨e, _, _⟩ | ⟨y, o, c', q, e, he, ec, hq, _⟩
    · rw [e] at hl; simp at hl
    · subst e ec
      simp only [List.length_cons, Nat.add_right_cancel_iff] at hl
      obtain ⟨v, hv, hle⟩ := far_least h.good h.fix (hq.rev fun x y o h => h.symm)
      have hy : fh F y = true := by unfold fh; rw [hv]; rfl
      have ev : v = (fc F y, fl F y) := by have := fget_of hy; rw [hv] at this; simpa using this
      have hfx := h.fix y frm o he.symm
      simp only [fimp, hy, hf, Bool.true_and, Bool.not_true, Bool.false_or] at hfx
      have hle2 := leF_of_not hfx
      rw [ev] at hle
      unfold leF at hle hle2
      simp only [List.length_reverse] at hle hle2
      have c1 : fc F y = c' := by omega
      have c2 : fl F y = k := by omega
      obtain ⟨l, hl', g1, g2, g3⟩ := oth_of he
      have hg : gok F frm l = true := by
        simp only [gok, g1, g2, g3, Bool.true_and, Bool.and_eq_true, beq_iff_eq]; omega
      obtain ⟨l1, hl1, hk1, e1, hmin⟩ := h.next hf (by omega)
      have hm := hmin l hl' hg
      rw [g2] at hm
      have e2 : gat F n ls frm 1 = gmin F n frm ls ls.length := rfl
      rw [rlist_cons, lessL, if_pos rfl, e2]
      -- the first of the two tails
      have hd : ∀ z k, ∃ t, rlist F n ls z k = z :: t := fun z k => by
        cases k with
        | zero => exact ⟨[], rfl⟩
        | succ k => exact ⟨_, rlist_cons F n ls z k⟩
      by_cases hlt : gmin F n frm ls ls.length = y
      · rw [hlt]
        exact FW.first k hy (by omega) hq (by omega) hl
      · obtain ⟨t, ht⟩ := hd (gmin F n frm ls ls.length) k
        rw [ht]
        rcases hq.head with ⟨eq, _, _⟩ | ⟨_, _, _, q', eq, _, _, _, _⟩
        · subst eq
          rw [lessL, if_neg (fun e => hlt e.symm)]
          simp only [decide_eq_false_iff_not]; omega
        · subst eq
          rw [lessL, if_neg (fun e => hlt e.symm)]
          simp only [decide_eq_false_iff_not]; omega
end
end Go.Proofs.Ytglfcaioapdiaaa.Bk

namespace Go.Proofs.Ytglfcaioapdiaaa.Aw
open Go Go.RowKit
set_option linter.unusedVariables false
set_option linter.unusedSimpArgs false
section
variable {K : Nat → Prop} {w w' : World} {m : Nat → Loc} {B : Nat} {es0 : Array MapEntry} {c0 : Nat}
end
section
variable {P : Program} {Old : Nat → Prop} {wi : WI} {K : Nat → Prop} {m : Nat → Loc} {S : Nat → Prop} {H : Hp} {w : World} {N n : Nat} {T : Tp} {o : Oper} {a : Act}
end
section
variable {P : Program} {N n : Nat} {all : Array Oper} {l : List Oper} {G : Tp → Hp → Nat → Prop} {T T' : Tp} {H : Hp} {ty : TypeId} {pos : String} {after : Array Edge} {d : Nat}
inductive VV : AV → Value → Prop
  | v (x : Value) : VV (.v x) x
  | agg2 (x y : Value) : VV (.agg [.v x, .v y]) (.agg #[x, y])
theorem VV.eq {K : Nat → Prop} {w : World} {m : Nat → Loc} {S : Nat → Prop} {av : AV} {x y : Value} (h : VV av x) (hv : VR K w m S av y) : y = x := by
  cases h with
  | v => cases hv; rfl
  | agg2 a b =>
    cases hv with
    | agg _ _ xs hl hvv =>
      match xs, hl, hvv with
      | [p, q], _, hvv =>
        have h0 := hvv 0 _ p rfl rfl
        have h1 := hvv 1 _ q rfl rfl
        cases h0; cases h1; rfl
end
theorem VV.val {K : Nat → Prop} {w : World} {m : Nat → Loc} {S : Nat → Prop} {av : AV} {x : Value} (h : VV av x) : VR K w m S av x := by
  cases h with
  | v => exact .v _ _
  | agg2 a b =>
    refine .agg _ _ [a, b] rfl fun j cv y h1 h2 => ?_
    match j with
    | 0 => simp at h1 h2; subst h1 h2; exact .v _ _
    | 1 => simp at h1 h2; subst h1 h2; exact .v _ _
    | j + 2 => simp at h1
section
variable {P : Program} {N n : Nat} {all : Array Oper} {l : List Oper} {G : Tp → Hp → Nat → Prop} {T : Tp} {H : Hp} {ty : TypeId} {pos : String} {after : Array Edge} {d : Nat} {o : Oper}
end
section
variable {P : Program} {Old : Nat → Prop} {wi : WI} {K : Nat → Prop} {m : Nat → Loc} {S : Nat → Prop} {H : Hp} {w : World} {N n g : Nat} {T : Tp} {Q : Exit → Tp → Hp → Nat → Prop}
end
end Go.Proofs.Ytglfcaioapdiaaa.Aw

namespace Go.Proofs.Ytglfcaioapdiaaa.Bk
open Go Go.RowKit Go.Proofs.Ytglfcaioapdiaaa.Aw
set_option linter.unusedSimpArgs false
set_option linter.unusedVariables false
attribute [local irreducible] AW SQ Step RO RC DE Thn InB
section
variable {N n : Nat} {all : Array Oper} {l : List Oper} {G : Tp → Hp → Nat → Prop} {T T' : Tp} {H : Hp} {ty : TypeId} {pos : String} {after : Array Edge} {d : Nat}
end
end Go.Proofs.Ytglfcaioapdiaaa.Bk

-- How far each node is: the walk of the rounds.
namespace Go.Proofs.Ytglfcaioapdiaaa.Bk
open Go Go.RowKit Go.Proofs.Ytglfcaioapdiaaa.Aw
set_option linter.unusedSimpArgs false
set_option linter.unusedVariables false
attribute [local irreducible] AW SQ Step RO RC DE Thn InB
end Go.Proofs.Ytglfcaioapdiaaa.Bk

namespace Go.Proofs.Ytglfcaioapdiaaa.Bk
open Go Go.RowKit Go.Proofs.Ytglfcaioapdiaaa.Aw
set_option linter.unusedSimpArgs false
set_option linter.unusedVariables false
attribute [local irreducible] AW SQ Step RO RC DE Thn InB
def codeV (n : Int) (ls : List Ln) (xs : List Int) : Int := if bkB n ls = true then (if (xs.any fun x => !inB x 0 (n - 1)) = true then 2 else 0) else 1
set_option maxHeartbeats 4000000 in
theorem code_ro (n : Int) (ls : List Ln) (xs : List Int) (hn : ls.length ≤ 1048576) (hx : xs.length ≤ 1048576) (k : Nat) : RO Try.prog 49 [.agg (bkL n ls), .dsl 1 (xs.map inL)] k (.v (.int .i64 (codeV n ls xs))) [] k := by
  have hV := ValidBackhaul_ro n ls hn
  unfold bkL at hV ⊢
  refine RO.ofv' Try.func49 Try.ntmps49 rfl (goFn_of Try.func49 rfl (by kernel_rfl)) rfl rfl ?_
  cases hb : bkB n ls with
  | false =>
    have b1 : (!bkB n ls) = true := by rw [hb]; rfl
    ((repeat' (first
    | (show SQ _ _ _ _ _ _ _ _; first | apply sq_nil | (apply q_assign; exact rfl; exact rfl) | (apply q_not; exact rfl; exact rfl))
    | (show SQ _ _ _ _ _ _ _ _; (first | (apply q_ldap; exact rfl; exact rfl; exact (ty rfl); exact rfl; exact rfl; exact (by first | rfl | assumption | ((try simp only [Nat.zero_add]); refine List.getElem?_set_self ?_; (try simp only [List.length_set]); assumption)); exact rfl) | (apply q_box; iterate 3 exact rfl) | (apply q_callU; (iterate 3 exact rfl); exact FzL.of rfl; exact hV _)); (try simp only [put, rowsOf, plR, selE, ovr, setH, del, cellsA, splice, isV, spq, if_true, if_false]))
    | (show AW _ _ _ _ _ _ _ _; first | refine aw_region ?_ | (refine aw_seqk ?_; intro K hK) | refine aw_block ?_ | (apply aw_cond_t; exact rfl; exact (by assumption)) | refine aw_ret ?_)
    | refine thn_n ?_
    | (refine hK _ _ _ ?_; clear hK K)
    | refine thn_r ?_
    | refine inb_r ?_)); all_goals (repeat (clear hK K)))
    all_goals refine fin_r (fin_i rfl ?_)
    simp [codeV, hb]
  | true =>
    have b1 : (!bkB n ls) = false := by rw [hb]; rfl
    have hN := (bkB_in hb).1
    have hw : IntKind.i64.wrap (n - 1) = n - 1 := IntWalk.i64_in _ (by omega)
    have hA := allWithin_ro xs (xs.map inL) 0 (IntKind.i64.wrap (n - 1)) rfl hx
    ((repeat' (first
    | (show SQ _ _ _ _ _ _ _ _; first | apply sq_nil | (apply q_move; exact rfl; exact rfl) | (apply q_assign; exact rfl; exact rfl) | (apply q_fieldAddr; exact rfl; exact rfl; exact (ty rfl); iterate 4 exact rfl) | (apply q_not; exact rfl; exact rfl) | (apply q_sub; iterate 3 exact rfl) | (apply q_ld1p; exact rfl; exact rfl; exact (ty rfl); exact rfl; exact rfl; exact (by first | rfl | assumption | ((try simp only [Nat.zero_add]); refine List.getElem?_set_self ?_; (try simp only [List.length_set]); assumption)); exact rfl))
    | (show SQ _ _ _ _ _ _ _ _; (first | (apply q_ldap; exact rfl; exact rfl; exact (ty rfl); exact rfl; exact rfl; exact (by first | rfl | assumption | ((try simp only [Nat.zero_add]); refine List.getElem?_set_self ?_; (try simp only [List.length_set]); assumption)); exact rfl) | (apply q_box; iterate 3 exact rfl) | (apply q_callU; (iterate 3 exact rfl); exact FzL.of rfl; exact hV _) | (apply q_callU; (iterate 3 exact rfl); exact FzL.of rfl; exact hA _)); (try simp only [put, rowsOf, plR, selE, ovr, setH, del, cellsA, splice, isV, spq, if_true, if_false]))
    | (show AW _ _ _ _ _ _ _ _; first | refine aw_region ?_ | (refine aw_seqk ?_; intro K hK) | refine aw_block ?_ | (apply aw_cond_f; exact rfl; exact (by assumption)) | refine aw_ret ?_ | refine aw_skip ?_ | (apply aw_ite; exact rfl; all_goals intro h))
    | refine thn_n ?_
    | (refine hK _ _ _ ?_; clear hK K)
    | refine thn_r ?_
    | refine inb_n ?_
    | refine inb_r ?_)); all_goals (repeat (clear hK K)))
    all_goals refine fin_r (fin_i rfl ?_)
    all_goals (rw [hw] at *; simp_all [codeV])
section
variable (n : Int) (ls : List Ln) (a b : Int) (hn : ls.length ≤ 1048576)
include hn
end
end Go.Proofs.Ytglfcaioapdiaaa.Bk
