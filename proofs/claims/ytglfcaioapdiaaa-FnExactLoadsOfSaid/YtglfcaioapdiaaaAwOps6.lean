/-
  Operations on slices: making, slicing.
-/
import Derived.Test.YtglfcaioapdiaaaAwOps4
import Derived.Laws.MakeOwn
import Derived.Laws.Slices
import Derived.Laws.StructEq
namespace Go.Proofs.Ytglfcaioapdiaaa.Aw
open Go Go.RowKit
set_option linter.unusedSimpArgs false

section
variable {P : Program} {Old : Nat → Prop} {wi : WI} {K : Nat → Prop} {m : Nat → Loc} {S : Nat → Prop} {H : Hp} {w : World} {N n : Nat} {T : Tp} {o : Oper}

theorem made_get {z : Array Value} {es C r j : Nat} (hz : z.size = es) (hr : r < C) (hj : j < es) : (madeCells z (C * es))[r * es + j]? = z[j]? := by
  have hlt : r * es + j < C * es := by
    have : (r + 1) * es ≤ C * es := Nat.mul_le_mul_right _ hr
    rw [Nat.succ_mul] at this; omega
  unfold madeCells
  rw [Array.getElem?_map, Array.getElem?_range, if_pos hlt]
  simp only [Option.map_some]
  have : (r * es + j) % z.size = j := by rw [hz, Nat.mul_comm, Nat.mul_add_mod, Nat.mod_eq_of_lt hj]
  rw [this, getElem!_pos z j (by omega), Array.getElem?_eq_getElem (by omega)]

/-- a new slice of zeros -/
theorem s_makeSlice {t : TypeId} {ti : TI} {x y : Operand} {e : TypeId} {es eb : Nat} {ez : List Value} {k k' : IntKind} {L C : Int} (ho : o.op = .makeSlice t x y) (hty : tiOf P t = some ti)
    (hk : ti.k = .slice e es eb ez) (hx : evalA T x = some (.v (.int k L))) (hy : evalA T y = some (.v (.int k' C))) (h0 : 0 ≤ L) (h1 : L ≤ C) (hb : (eb : Int) * C ≤ 281474976710656) (h63 : C ≤ 9223372036854775807)
    (hz : ez.length = es) (hone : ez.all (·.oneCell') = true) :
    Step P o N T H n (.sl n 0 L.toNat) ((n, ⟨e, es, true, List.replicate L.toNat (ez.map .v)⟩) :: H) (n + 1) true := by
  obtain ⟨i, d, z, hi, hd, hzz, hsz, hagg, hby, hzl, htk⟩ := tiOf_spec hty
  rw [hk] at htk
  obtain ⟨ei, ezz, rfl, hei, hezz, hes, heb, hezl⟩ := tk_slice htk
  have hzs : ezz.cells.size = es := by rw [← hz, ← hezl]; simp
  refine Step.new ⟨e, es, true, List.replicate L.toNat (ez.map .v)⟩ (fun _ r row hrow j cv hj => ?_) fun Old wi K m S a w hr ht => ?_
  · obtain ⟨_, hrow⟩ := List.getElem?_eq_some_iff.1 hrow
    rw [List.getElem_replicate] at hrow
    subst hrow
    rw [List.getElem?_map] at hj
    cases hzj : ez[j]? with
    | none => simp [hzj] at hj
    | some y => simp only [hzj, Option.map_some, Option.some.injEq] at hj; subst hj; rfl
  · have hvx := ht.eval hx
    have hvy := ht.eval hy
    generalize hxv : a.eval x = xv at hvx
    generalize hyv : a.eval y = yv at hvy
    cases hvx
    cases hvy
    refine ⟨.slice (some ⟨w.heap.size, 0, none⟩) L.toNat C.toNat, w.drawn, C.toNat, madeCells ezz.cells (C.toNat * ei.size), ?_, by simp only [List.length_replicate]; omega, by simp only [maxLen]; omega, by simp [size_madeCells, hes], ?_, ?_⟩
    · simp only [execOp, ho, hxv, hyv]
      have := run_make (P := P) w t e ei ezz hd hei hezz k k' L C h0 h1 (by rw [heb]; exact hb) h63
      simp only [Sem.run_bind, this, Result.andThen, Sem.run_pure]
      rfl
    · intro r row hrow
      obtain ⟨hlt, hrow⟩ := List.getElem?_eq_some_iff.1 hrow
      rw [List.getElem_replicate] at hrow
      subst hrow
      simp only [List.length_replicate] at hlt
      refine ⟨by simp [hz], fun j cv hj => ?_⟩
      rw [List.getElem?_map] at hj
      cases hzj : ez[j]? with
      | none => simp [hzj] at hj
      | some y =>
        simp only [hzj, Option.map_some, Option.some.injEq] at hj
        subst hj
        have hjl : j < es := by rw [← hz]; exact (List.getElem?_eq_some_iff.1 hzj).1
        refine ⟨y, ?_, List.all_eq_true.1 hone y (List.mem_of_getElem? hzj), .v _ y⟩
        rw [hes, made_get hzs (by omega) hjl, ← Array.getElem?_toList, hezl]
        exact hzj
    · intro m' w' hm
      have hbk : (m' n).blk = w.heap.size := by rw [hm]
      rw [← hbk]
      exact .sl _ n 0 _ 0 _ (.inr ⟨Nat.le_refl _, Nat.lt_succ_self _⟩) (by rw [hm]) (by simp) (by rw [hm]; simp)

/-- a bound of a slicing -/
def Bnd (T : Tp) (b : Option Operand) (dft v : Nat) : Prop := match b with
  | none => v = dft
  | some y => ∃ k q, evalA T y = some (.v (.int k q)) ∧ 0 ≤ q ∧ v = q.toNat

theorem run_bounds {a : Act} (ht : TRel K w m S N T a) (isS : Bool) {lo hi : Option Operand} {len cap l h : Nat} (hlo : Bnd T lo 0 l) (hhi : Bnd T hi len h) (h1 : l ≤ h) (h2 : h ≤ len) (h3 : len ≤ cap) :
    (Instr.sliceBounds isS len cap (lo.map a.eval) (hi.map a.eval) none).run P w = .ok (l, h, cap) w := by
  have bd : ∀ {y : Operand} {k : IntKind} {q : Int} {v m' : Nat} (code : BoundsCode), evalA T y = some (.v (.int k q)) → 0 ≤ q → v = q.toNat → v ≤ m' → (Instr.sliceBound (a.eval y) m' code).run P w = .ok v w := by
    intro y k q v m' code h1 h2 h3 h4
    have hv := ht.eval h1
    generalize a.eval y = yv at hv
    cases hv
    subst h3
    simp only [Instr.sliceBound, asIntOf, Sem.run_bind, Sem.run_pure, Result.andThen]
    rw [if_pos ⟨h2, by omega⟩]
    rfl
  cases lo with
  | none =>
    cases hi with
    | none =>
      simp only [Bnd] at hlo hhi
      subst hlo hhi
      simp [Instr.sliceBounds]
    | some y =>
      simp only [Bnd] at hlo
      obtain ⟨k, q, e1, e2, e3⟩ := hhi
      subst hlo
      simp [Instr.sliceBounds, Result.andThen, bd _ e1 e2 e3 (show h ≤ cap by omega)]
  | some x =>
    obtain ⟨k', q', f1, f2, f3⟩ := hlo
    cases hi with
    | none =>
      simp only [Bnd] at hhi
      subst hhi
      simp [Instr.sliceBounds, Result.andThen, bd _ f1 f2 f3 h1]
    | some y =>
      obtain ⟨k, q, e1, e2, e3⟩ := hhi
      simp [Instr.sliceBounds, Result.andThen, bd _ e1 e2 e3 (show h ≤ cap by omega), bd _ f1 f2 f3 h1]

theorem tk_str {d : TypeDesc} (htk : tkOf P d = .str) : d = .string := by
  cases d <;> simp only [tkOf] at htk
  case struct => split at htk <;> cases htk
  case slice => split at htk <;> (try split at htk) <;> cases htk
  case array => split at htk <;> cases htk
  all_goals (first | rfl | cases htk)
theorem s_slice_str {t : TypeId} {ti : TI} {x : Operand} {lo hi : Option Operand} {s : ByteArray} {l h : Nat} (ho : o.op = .slice t x lo hi none) (hty : tiOf P t = some ti) (hk : ti.k = .str)
    (hx : evalA T x = some (.v (.string s))) (hlo : Bnd T lo 0 l) (hhi : Bnd T hi s.size h) (h1 : l ≤ h) (h2 : h ≤ s.size) : Step P o N T H n (.v (.string (s.extract l h))) H n true := by
  obtain ⟨i, d, z, hi', hd, hzz, hsz, hagg, hby, hzl, htk⟩ := tiOf_spec hty
  rw [hk] at htk
  have hds := tk_str htk
  subst hds
  refine Step.still fun Old wi K m S a w _ ht => ?_
  have hv := ht.eval hx
  generalize hxv : a.eval x = xv at hv
  cases hv
  refine ⟨_, ?_, .v _ _⟩
  have := run_bounds (P := P) ht false hlo hhi h1 h2 (Nat.le_refl _)
  simp only [execOp, ho, hxv, Instr.sliceAt, Instr.slice, Sem.run_bind, run_underlying hd, Result.andThen, Option.map_none, Option.isSome_none, Bool.false_eq_true, if_false, Sem.run_pure, this]

theorem s_slice_dsl {t : TypeId} {ti : TI} {x : Operand} {e : TypeId} {es eb : Nat} {ez : List Value} {rows : List (List AV)} {lo hi : Option Operand} {l h : Nat} (ho : o.op = .slice t x lo hi none) (hty : tiOf P t = some ti)
    (hk : ti.k = .slice e es eb ez) (hx : evalA T x = some (.dsl es rows)) (hlo : Bnd T lo 0 l) (hhi : Bnd T hi rows.length h) (h1 : l ≤ h) (h2 : h ≤ rows.length) :
    Step P o N T H n (.dsl es ((rows.drop l).take (h - l))) H n true := by
  obtain ⟨i, d, z, hi', hd, hzz, hsz, hagg, hby, hzl, htk⟩ := tiOf_spec hty
  rw [hk] at htk
  obtain ⟨ei, ezz, rfl, hei, _, hes, _, _⟩ := tk_slice htk
  refine Step.still fun Old wi K m S a w _ ht => ?_
  have hv := ht.eval hx
  generalize hxv : a.eval x = xv at hv
  cases hv with
  | dsl0 _ _ ad c =>
    have hl0 : l = 0 := by simp at h2; omega
    have hh0 : h = 0 := by simp at h2; omega
    subst hl0 hh0
    refine ⟨.slice (if c = 0 then ad else ad.map (·.add (0 * es))) 0 c, ?_, .dsl0 _ _ _ _⟩
    have := run_bounds (P := P) (cap := c) ht true hlo hhi h1 h2 (Nat.zero_le _)
    simp only [List.length_nil] at this
    simp only [execOp, ho, hxv, Instr.sliceAt, Instr.slice, Sem.run_bind, run_underlying hd, Result.andThen, Option.map_none, this, Sem.run_pure, run_sizeOf w hei, Program.cellsOf, hei, Option.map_some, Option.getD_some, hes, Nat.sub_zero]
  | dsl _ _ _ rn b p c xs hn hc hK hl hx2 hv2 =>
    have := run_bounds (P := P) (cap := c) ht true hlo hhi h1 h2 hc
    subst hn
    by_cases hlh : l = h
    · subst hlh
      rw [Nat.sub_self, List.take_zero]
      refine ⟨.slice (if c = l then some ⟨b, p, none⟩ else (some ⟨b, p, none⟩ : Option Addr).map (·.add (l * es))) 0 (c - l), ?_, .dsl0 _ _ _ _⟩
      simp only [execOp, ho, hxv, Instr.sliceAt, Instr.slice, Sem.run_bind, run_underlying hd, Result.andThen, Option.map_none, this, Sem.run_pure, run_sizeOf w hei, Program.cellsOf, hei, Option.map_some, Option.getD_some, hes, Nat.sub_self]
    · have hne : c ≠ l := by omega
      refine ⟨.slice (some ⟨b, p + l * es, none⟩) (h - l) (c - l), ?_, .dsl _ _ _ _ _ _ _ (fun r j => xs (l + r) j) ?_ ?_ hK ?_ ?_ ?_⟩
      · simp only [execOp, ho, hxv, Instr.sliceAt, Instr.slice, Sem.run_bind, run_underlying hd, Result.andThen, Option.map_none, this, Sem.run_pure, run_sizeOf w hei, Program.cellsOf, hei, Option.map_some, Option.getD_some, hes, if_neg hne, Go.WideShapes.add_plain]
      · simp; omega
      · simp; omega
      · intro r row hr
        rw [List.getElem?_take] at hr
        split at hr
        · rw [List.getElem?_drop] at hr; exact hl _ _ hr
        · cases hr
      · intro r row j cv hr hj
        rw [List.getElem?_take] at hr
        split at hr
        · rw [List.getElem?_drop] at hr
          have := hx2 _ _ _ _ hr hj
          refine ⟨?_, this.2⟩
          rw [← this.1, Nat.add_mul, ← Nat.add_assoc]
        · cases hr
      · intro r row j cv hr hj
        rw [List.getElem?_take] at hr
        split at hr
        · rw [List.getElem?_drop] at hr; exact hv2 _ _ _ _ hr hj
        · cases hr
theorem s_slice_dsl_l {t : TypeId} {ti : TI} {x : Operand} {e : TypeId} {es eb : Nat} {ez : List Value} {rows : List (List AV)} {lo : Option Operand} {l : Nat} (ho : o.op = .slice t x lo none none) (hty : tiOf P t = some ti)
    (hk : ti.k = .slice e es eb ez) (hx : evalA T x = some (.dsl es rows)) (hlo : Bnd T lo 0 l) (h1 : l ≤ rows.length) : Step P o N T H n (.dsl es (rows.drop l)) H n true := by
  have := s_slice_dsl (hi := none) (h := rows.length) (n := n) (H := H) (N := N) ho hty hk hx hlo rfl h1 (Nat.le_refl _)
  rwa [List.take_of_length_le (by simp)] at this
/-- two structs of plain cells are compared -/
theorem s_eqA {x y : Operand} {t u : TypeId} {cs ds : List AV} {xs ys : List Value} {b : Bool} (neg : Bool) (ho : o.op = .binOp (if neg then .neq else .eql) t x y u) (hx : evalA T x = some (.agg cs)) (hy : evalA T y = some (.agg ds))
    (hm : P.eqGuardType P.depth t = false) (heq : ∀ w, (Op.equalIn 10000 t (.agg xs.toArray) (.agg ys.toArray)).run P w = .ok b w) (hcs : cs = xs.map .v) (hds : ds = ys.map .v) :
    Step P o N T H n (.v (.bool (if neg then !b else b))) H n true := by
  have pl : ∀ {K : Nat → Prop} {w : World} {m : Nat → Loc} {S : Nat → Prop} {zs : List Value} {v : Value}, VR K w m S (.agg (zs.map .v)) v → v = .agg zs.toArray := by
    intro K w m S zs v h
    generalize hc : (AV.agg (zs.map .v)) = c at h
    cases h <;> cases hc
    rename_i us hl hv
    congr 2
    refine List.ext_getElem? fun j => ?_
    rw [List.length_map] at hl
    by_cases hj : j < zs.length
    · have h1 : us[j]? = some (us[j]'(by omega)) := List.getElem?_eq_getElem (by omega)
      have h2 : (zs.map AV.v)[j]? = some (.v zs[j]) := by simp [hj]
      have h3 := hv j _ _ h2 h1
      rw [h1, List.getElem?_eq_getElem hj]
      generalize us[j]'(by omega) = q at h3
      cases h3; rfl
    · rw [List.getElem?_eq_none (by omega), List.getElem?_eq_none (by omega)]
  subst hcs hds
  refine Step.still fun Old wi K m S a w hr ht => ?_
  have e1 := pl (ht.eval hx)
  have e2 := pl (ht.eval hy)
  refine ⟨.bool (if neg then !b else b), ?_, .v _ _⟩
  cases neg
  · simp only [Bool.false_eq_true, if_false] at ho
    simp only [execOp, ho, e1, e2, Sem.run_bind, run_eqGuard_agg w _ _ _ _ _ _ hm, run_eql_struct, heq, Result.andThen, Sem.run_pure, Bool.false_eq_true, if_false]
  · simp only [if_true] at ho
    simp only [execOp, ho, e1, e2, Sem.run_bind, run_eqGuard_agg w _ _ _ _ _ _ hm, run_neq_struct, heq, Result.andThen, Sem.run_pure, if_true]
end
end Go.Proofs.Ytglfcaioapdiaaa.Aw
