/-
  Operations: slices of slices of the call's own, nil, shifts and bits.
-/
import Derived.Test.YtglfcaioapdiaaaAwOps7
import Derived.Laws.Shifts
import Derived.Laws.Cover3
namespace Go.Proofs.Ytglfcaioapdiaaa.Aw
open Go Go.RowKit
set_option linter.unusedSimpArgs false
set_option linter.unusedVariables false

section
variable {P : Program} {Old : Nat → Prop} {wi : WI} {K : Nat → Prop} {m : Nat → Loc} {S : Nat → Prop} {H : Hp} {w : World} {N n : Nat} {T : Tp} {o : Oper}

theorem s_slice_sl {t : TypeId} {ti : TI} {x : Operand} {e : TypeId} {es eb : Nat} {ez : List Value} {id row len : Nat} {b : Blk} {lo hi : Option Operand} {l h : Nat} (ho : o.op = .slice t x lo hi none) (hty : tiOf P t = some ti)
    (hk : ti.k = .slice e es eb ez) (hx : evalA T x = some (.sl id row len)) (hl : look H id = some b) (hb : b.size = es) (hn : row + len ≤ b.rows.length) (hlo : Bnd T lo 0 l) (hhi : Bnd T hi len h) (h1 : l ≤ h) (h2 : h ≤ len) :
    Step P o N T H n (.sl id (row + l) (h - l)) H n true := by
  obtain ⟨i, d, z, hi', hd, hzz, hsz, hagg, hby, hzl, htk⟩ := tiOf_spec hty
  rw [hk] at htk
  obtain ⟨ei, ezz, rfl, hei, _, hes, _, _⟩ := tk_slice htk
  refine Step.still fun Old wi K m S a w hr ht => ?_
  have hv := ht.eval hx
  generalize hxv : a.eval x = xv at hv
  cases hv with
  | sl0 _ _ _ ad hS =>
    have hl0 : l = 0 := by omega
    have hh0 : h = 0 := by omega
    subst hl0 hh0
    refine ⟨.slice (if (0 : Nat) = 0 then ad else ad.map (·.add (0 * es))) 0 0, ?_, .sl0 _ _ _ _ hS⟩
    have := run_bounds (P := P) (cap := 0) ht true hlo hhi h1 h2 (Nat.zero_le _)
    simp only [execOp, ho, hxv, Instr.sliceAt, Instr.slice, Sem.run_bind, run_underlying hd, Result.andThen, Option.map_none, this, Sem.run_pure, run_sizeOf w hei, Program.cellsOf, hei, Option.map_some, Option.getD_some, hes, Nat.sub_zero]
  | sl _ _ _ _ p c hS hph hp hc =>
    have hbr := (hr.own id b hl).br hph
    have hcap := hbr.cap
    have hlc : len ≤ c := by omega
    have := run_bounds (P := P) (cap := c) ht true hlo hhi h1 h2 hlc
    by_cases hcl : c = l
    · have hlh : h = l := by omega
      subst hlh
      subst hcl
      refine ⟨.slice (some ⟨(m id).blk, p, none⟩) 0 0, ?_, by rw [Nat.sub_self]; exact .sl0 _ _ _ _ hS⟩
      simp only [execOp, ho, hxv, Instr.sliceAt, Instr.slice, Sem.run_bind, run_underlying hd, Result.andThen, Option.map_none, this, Sem.run_pure, run_sizeOf w hei, Program.cellsOf, hei, Option.map_some, Option.getD_some, hes, Nat.sub_self, if_true]
    · refine ⟨.slice (some ⟨(m id).blk, p + l * es, none⟩) (h - l) (c - l), ?_, .sl _ _ _ _ _ _ hS hph ?_ ?_⟩
      · simp only [execOp, ho, hxv, Instr.sliceAt, Instr.slice, Sem.run_bind, run_underlying hd, Result.andThen, Option.map_none, this, Sem.run_pure, run_sizeOf w hei, Program.cellsOf, hei, Option.map_some, Option.getD_some, hes, if_neg hcl, Go.WideShapes.add_plain]
      · rw [hp, hbr.sz, hb, Nat.add_mul]
      · omega

theorem guard_slice {op : BinOp} {t : TypeId} {x y : Operand} {a b : Option Addr} {l c l' c' : Nat} : (eqGuard op t x y (.slice a l c) (.slice b l' c')).run P w = .ok () w := by
  cases op <;> rfl
theorem run_eql_slice_nil' {t e : TypeId} (a : Option Addr) (l c : Nat) (h : P.underlying t = some (.slice e)) : (binOp .eql t (.slice a l c) (.slice none 0 0)).run P w = .ok (.bool a.isNone) w := by
  simp [binOp, run_equal_slice_nil w t e a l c h, Result.andThen]
/-- held against nil -/
theorem run_nil {x y : Operand} {a : Act} {t u e : TypeId} {neg : Bool} {ad : Option Addr} {l c : Nat} (ho : o.op = .binOp (if neg then .neq else .eql) t x y u) (hd : P.underlying t = some (.slice e)) (hx : a.eval x = .slice ad l c) (hy : a.eval y = .slice none 0 0) :
    (execOp a.eval o).run P w = .ok (.value (.bool (if neg then !ad.isNone else ad.isNone))) w := by
  cases neg
  · simp only [Bool.false_eq_true, if_false] at ho
    simp only [execOp, ho, hx, hy, Sem.run_bind, guard_slice, Result.andThen, run_eql_slice_nil' (P := P) ad l c hd, Sem.run_pure, Bool.false_eq_true, if_false]
  · simp only [if_true] at ho
    simp only [execOp, ho, hx, hy, Sem.run_bind, guard_slice, Result.andThen, run_neq_slice_nil w t e ad l c hd, Sem.run_pure, if_true]
theorem s_nilv {x y : Operand} {t u : TypeId} {ti : TI} {e : TypeId} {es eb : Nat} {ez : List Value} {ad : Option Addr} {l c : Nat} (neg : Bool) (ho : o.op = .binOp (if neg then .neq else .eql) t x y u) (hty : tiOf P t = some ti) (hk : ti.k = .slice e es eb ez)
    (hx : evalA T x = some (.v (.slice ad l c))) (hy : evalA T y = some (.v (.slice none 0 0))) : Step P o N T H n (.v (.bool (if neg then !ad.isNone else ad.isNone))) H n true := by
  obtain ⟨i, d, z, hi', hd, hzz, hsz, hagg, hby, hzl, htk⟩ := tiOf_spec hty
  rw [hk] at htk
  obtain ⟨ei, ezz, rfl, _⟩ := tk_slice htk
  refine Step.still fun Old wi K m S a w hr ht => ?_
  have h1 := ht.eval hx
  have h2 := ht.eval hy
  generalize hxv : a.eval x = xv at h1
  generalize hyv : a.eval y = yv at h2
  cases h1
  cases h2
  exact ⟨_, run_nil ho hd hxv hyv, .v _ _⟩
theorem s_nill {x y : Operand} {t u : TypeId} {ti : TI} {e : TypeId} {es eb : Nat} {ez : List Value} {id row len : Nat} (neg : Bool) (ho : o.op = .binOp (if neg then .neq else .eql) t x y u) (hty : tiOf P t = some ti) (hk : ti.k = .slice e es eb ez)
    (hx : evalA T x = some (.sl id row len)) (hy : evalA T y = some (.v (.slice none 0 0))) (h0 : 0 < len) : Step P o N T H n (.v (.bool neg)) H n true := by
  obtain ⟨i, d, z, hi', hd, hzz, hsz, hagg, hby, hzl, htk⟩ := tiOf_spec hty
  rw [hk] at htk
  obtain ⟨ei, ezz, rfl, _⟩ := tk_slice htk
  refine Step.still fun Old wi K m S a w hr ht => ?_
  have h1 := ht.eval hx
  have h2 := ht.eval hy
  generalize hxv : a.eval x = xv at h1
  generalize hyv : a.eval y = yv at h2
  cases h2
  cases h1 with
  | sl0 => omega
  | sl => exact ⟨_, run_nil ho hd hxv hyv, by cases neg <;> exact .v _ _⟩
/-- the same of a slice that came in: it may be nil where it is empty -/
theorem nil_any {x y : Operand} {t u : TypeId} {ti : TI} {e : TypeId} {es eb : Nat} {ez : List Value} {sz : Nat} {rows : List (List AV)} (neg : Bool) (ho : o.op = .binOp (if neg then .neq else .eql) t x y u) (hty : tiOf P t = some ti) (hk : ti.k = .slice e es eb ez)
    (hx : evalA T x = some (.dsl sz rows)) (hy : evalA T y = some (.v (.slice none 0 0))) {a : Act} (ht : TRel K w m S N T a) :
    ∃ b : Bool, (b = true → rows = []) ∧ (execOp a.eval o).run P w = .ok (.value (.bool (if neg then !b else b))) w := by
  obtain ⟨i, d, z, hi', hd, hzz, hsz, hagg, hby, hzl, htk⟩ := tiOf_spec hty
  rw [hk] at htk
  obtain ⟨ei, ezz, rfl, _⟩ := tk_slice htk
  have h1 := ht.eval hx
  have h2 := ht.eval hy
  generalize hxv : a.eval x = xv at h1
  generalize hyv : a.eval y = yv at h2
  cases h2
  cases h1 with
  | dsl0 _ _ ad c => exact ⟨ad.isNone, fun _ => rfl, run_nil ho hd hxv hyv⟩
  | dsl => exact ⟨false, (fun h => by cases h), run_nil ho hd hxv hyv⟩

theorem s_shr {x y : Operand} {t u : TypeId} {k k' : IntKind} {p q : Int} (ho : o.op = .binOp .shr t x y u) (hx : evalA T x = some (.v (.int k p))) (hy : evalA T y = some (.v (.int k' q))) (h0 : 0 ≤ q) :
    Step P o N T H n (.v (.int k (p / 2 ^ min q.toNat k.bits))) H n true :=
  s_two ho hx hy fun w => by
    simp only [Sem.run_bind, guard_int, Result.andThen]
    simp [binOp, shift_shr_any k k' p q h0]
theorem s_shl {x y : Operand} {t u : TypeId} {k k' : IntKind} {p q : Int} (ho : o.op = .binOp .shl t x y u) (hx : evalA T x = some (.v (.int k p))) (hy : evalA T y = some (.v (.int k' q))) (h0 : 0 ≤ q) :
    Step P o N T H n (.v (.int k (k.wrap (p * 2 ^ min q.toNat k.bits)))) H n true :=
  s_two ho hx hy fun w => by
    simp only [Sem.run_bind, guard_int, Result.andThen]
    simp [binOp, shift_shl_any k k' p q h0]
def andI (k : IntKind) (p q : Int) : Int := k.wrap (BitVec.ofInt k.bits p &&& BitVec.ofInt k.bits q).toNat
def xorI (k : IntKind) (p q : Int) : Int := k.wrap (BitVec.ofInt k.bits p ^^^ BitVec.ofInt k.bits q).toNat
theorem s_and {x y : Operand} {t u : TypeId} {k : IntKind} {p q : Int} (ho : o.op = .binOp .and t x y u) (hx : evalA T x = some (.v (.int k p))) (hy : evalA T y = some (.v (.int k q))) : Step P o N T H n (.v (.int k (andI k p q))) H n true :=
  s_two ho hx hy fun w => by
    simp only [Sem.run_bind, guard_int, Result.andThen]
    simp [binOp, Op.intBits, andI]
theorem s_xor {x y : Operand} {t u : TypeId} {k : IntKind} {p q : Int} (ho : o.op = .binOp .xor t x y u) (hx : evalA T x = some (.v (.int k p))) (hy : evalA T y = some (.v (.int k q))) : Step P o N T H n (.v (.int k (xorI k p q))) H n true :=
  s_two ho hx hy fun w => by
    simp only [Sem.run_bind, guard_int, Result.andThen]
    simp [binOp, Op.intBits, xorI]
end
end Go.Proofs.Ytglfcaioapdiaaa.Aw
