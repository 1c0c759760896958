/-
  The operations, one by one, said of the abstract state: elements, arithmetic, stores, slices.
-/
import Derived.Test.YtglfcaioapdiaaaAwOps2
import Derived.Laws.Small
namespace Go.Proofs.Ytglfcaioapdiaaa.Aw
open Go Go.RowKit

section
variable {P : Program} {Old : Nat → Prop} {wi : WI} {K : Nat → Prop} {m : Nat → Loc} {S : Nat → Prop} {H : Hp} {w : World} {N n : Nat} {T : Tp} {o : Oper}

/-- the address of an element of a slice of the call's own -/
theorem s_index_sl {t : TypeId} {ti : TI} {x y : Operand} {e : TypeId} {es eb id row len : Nat} {ez : List Value} {b : Blk} {k : IntKind} {q : Int} (ho : o.op = .indexAddr t x y) (hty : tiOf P t = some ti)
    (hk : ti.k = .slice e es eb ez) (hx : evalA T x = some (.sl id row len)) (hl : look H id = some b) (hb : b.size = es) (hy : evalA T y = some (.v (.int k q))) (h0 : 0 ≤ q) (h1 : q < len) :
    Step P o N T H n (.ptr id (row + q.toNat) 0) H n true := by
  obtain ⟨i, d, z, hi, hd, hzz, hsz, hagg, hby, hzl, htk⟩ := tiOf_spec hty
  rw [hk] at htk
  obtain ⟨ei, ezz, rfl, hei, _, hes, _, _⟩ := tk_slice htk
  refine Step.still fun Old wi K m S a w hr ht => ?_
  have hv := ht.eval hx
  have hq := ht.eval hy
  generalize hxv : a.eval x = xv at hv
  generalize hyv : a.eval y = yv at hq
  cases hq
  cases hv with
  | sl0 _ _ _ ad hS => exact absurd h1 (by simp; omega)
  | sl _ _ _ _ p c hS hph hp hc =>
    refine ⟨.pointer (some ⟨(m id).blk, p + q.toNat * es, none⟩), ?_, .ptr _ id _ 0 _ hS ?_⟩
    · simp only [execOp, ho, hxv, hyv, Instr.indexAt, asIntOf, Sem.run_bind, Sem.run_pure, run_underlying hd, Result.andThen]
      rw [if_pos ⟨h0, h1⟩]
      simp [run_sizeOf w hei, Program.cellsOf, hei, hes, Go.WideShapes.add_plain]
    · rw [hp, ((hr.own id b hl).br hph).sz, hb, Nat.add_mul]
      rfl

/-- the address of an element of an array -/
theorem s_index_arr {t : TypeId} {ti : TI} {x y : Operand} {len es : Nat} {ea : Bool} {av av' : AV} {k : IntKind} {q : Int} (ho : o.op = .indexAddr t x y) (hty : tiOf P t = some ti)
    (hk : ti.k = .array len es ea) (hx : evalA T x = some av) (hsh : shiftA av (q.toNat * es) = some av') (hy : evalA T y = some (.v (.int k q))) (h0 : 0 ≤ q) (h1 : q < len) :
    Step P o N T H n av' H n true := by
  obtain ⟨i, d, z, hi, hd, hzz, hsz, hagg, hby, hzl, htk⟩ := tiOf_spec hty
  rw [hk] at htk
  obtain ⟨e, ei, d', rfl, hei, hed, hes, hea⟩ := tk_array htk
  refine Step.still fun Old wi K m S a w hr ht => ?_
  obtain ⟨g, p, hp, hv⟩ := (ht.eval hx).shift hsh
  have hq := ht.eval hy
  generalize hyv : a.eval y = yv at hq
  cases hq
  refine ⟨_, ?_, hv⟩
  simp only [execOp, ho, hp, hyv, Instr.indexAt, asIntOf, Sem.run_bind, Sem.run_pure, run_underlying hd, Result.andThen, Instr.sureAddr]
  rw [if_pos ⟨h0, h1⟩]
  simp [run_sizeOf w hei, Program.cellsOf, hei, hes, Go.WideShapes.add_plain]

/-- a byte of a string -/
theorem s_index_str {t : TypeId} {ti : TI} {x y : Operand} {s : ByteArray} {c : UInt8} {k : IntKind} {q : Int} (ho : o.op = .index t x y) (hty : tiOf P t = some ti)
    (hk : ti.k = .str) (hx : evalA T x = some (.v (.string s))) (hy : evalA T y = some (.v (.int k q))) (h0 : 0 ≤ q) (hc : s[q.toNat]? = some c) : Step P o N T H n (.v (.int .u8 c.toNat)) H n true := by
  obtain ⟨i, d, z, hi, hd, hzz, hsz, hagg, hby, hzl, htk⟩ := tiOf_spec hty
  rw [hk] at htk
  have hdd : d = .string := by
    cases d <;> simp only [tkOf] at htk
    case string => rfl
    case struct => split at htk <;> cases htk
    case slice => split at htk <;> (try split at htk) <;> cases htk
    case array => split at htk <;> cases htk
    all_goals cases htk
  subst hdd
  refine Step.still fun Old wi K m S a w hr ht => ?_
  have hxx := ht.eval hx
  have hyy := ht.eval hy
  generalize hxv : a.eval x = xv at hxx
  generalize hyv : a.eval y = yv at hyy
  cases hxx
  cases hyy
  refine ⟨_, ?_, .v _ _⟩
  simp only [execOp, ho, hxv, hyv, Instr.index, asIntOf, Sem.run_bind, Sem.run_pure, run_underlying hd, Result.andThen, h0, if_true, hc]

/-- an element of an array's value -/
theorem s_index_agg {t : TypeId} {ti : TI} {x y : Operand} {len es : Nat} {ea : Bool} {av av' : AV} {cs : List AV} {k : IntKind} {q : Int} (ho : o.op = .index t x y) (hty : tiOf P t = some ti)
    (hk : ti.k = .array len es ea) (hx : evalA T x = some av) (hc : av = .agg cs ∨ ∃ xs, av = .v (.agg xs) ∧ cs = xs.toList.map .v) (hy : evalA T y = some (.v (.int k q))) (h0 : 0 ≤ q) (h1 : q < len)
    (hr : (ea = true ∧ av' = .agg ((cs.drop (q.toNat * es)).take es)) ∨ (ea = false ∧ cs[q.toNat * es]? = some av')) : Step P o N T H n av' H n true := by
  obtain ⟨i, d, z, hi, hd, hzz, hsz, hagg, hby, hzl, htk⟩ := tiOf_spec hty
  rw [hk] at htk
  obtain ⟨e, ei, d', rfl, hei, hed, hes, hea⟩ := tk_array htk
  refine Step.still fun Old wi K m S a w _ ht => ?_
  obtain ⟨xs, hxs, hl, hv⟩ := (ht.eval hx).aggOf hc
  have hyy := ht.eval hy
  generalize hyv : a.eval y = yv at hyy
  cases hyy
  obtain ⟨hp1, hp2⟩ := run_part (P := P) w xs (q.toNat * es) hei hed
  rcases hr with ⟨rfl, rfl⟩ | ⟨rfl, hcv⟩
  · refine ⟨_, ?_, .agg _ _ ((xs.drop (q.toNat * es)).take es) (by simp [hl]) fun j cv y h1 h2 => ?_⟩
    · simp only [execOp, ho, hxs, hyv, Instr.index, asIntOf, Sem.run_bind, run_underlying hd, Result.andThen, Sem.run_pure]
      rw [if_pos ⟨h0, h1⟩]
      simp only [Sem.run_bind, run_sizeOf w hei, Program.cellsOf, hei, Option.map_some, Option.getD_some, hes, Result.andThen, hp1 hea]
    · rw [List.getElem?_take] at h1 h2
      split at h1
      · rename_i hj
        rw [if_pos hj] at h2
        rw [List.getElem?_drop] at h1 h2
        exact hv _ _ _ h1 h2
      · cases h1
  · have hlt : q.toNat * es < xs.length := by rw [hl]; exact (List.getElem?_eq_some_iff.1 hcv).1
    have hy := List.getElem?_eq_getElem hlt
    refine ⟨_, ?_, hv _ _ _ hcv hy⟩
    simp only [execOp, ho, hxs, hyv, Instr.index, asIntOf, Sem.run_bind, run_underlying hd, Result.andThen, Sem.run_pure]
    rw [if_pos ⟨h0, h1⟩]
    simp only [Sem.run_bind, run_sizeOf w hei, Program.cellsOf, hei, Option.map_some, Option.getD_some, hes, Result.andThen, hp2 _ hea hy]

theorem s_nilCheck {x : Operand} {av : AV} (ho : o.op = .nilCheck x) (hx : evalA T x = some av) (hc : (shiftA av 0).isSome = true ∨ ∃ f cs, av = .fn f cs) : Step P o N T H n av H n true :=
  Step.still fun Old wi K m S a w hr ht => by
    have hv := ht.eval hx
    refine ⟨_, ?_, hv⟩
    generalize hxv : a.eval x = xv at hv
    cases hv <;> simp only [execOp, ho, hxv] <;> first | rfl | (rcases hc with hc | ⟨_, _, hc⟩ <;> simp [shiftA] at hc)

/-- integers: sums, differences, products -/
def arith : BinOp → Option (Int → Int → Int)
  | .add => some (· + ·)
  | .sub => some (· - ·)
  | .mul => some (· * ·)
  | _ => none
def cmpI : BinOp → Option (Int → Int → Bool)
  | .eql => some (fun x y => x == y)
  | .neq => some (fun x y => x != y)
  | .lss => some (fun x y => decide (x < y))
  | .leq => some (fun x y => decide (x ≤ y))
  | .gtr => some (fun x y => decide (y < x))
  | .geq => some (fun x y => decide (y ≤ x))
  | _ => none
def ltS (x y : ByteArray) : Bool := Op.bytesLess x.toList y.toList
def eqS (x y : ByteArray) : Bool := x.toList == y.toList
def cmpS : BinOp → Option (ByteArray → ByteArray → Bool)
  | .eql => some eqS
  | .neq => some (fun x y => !eqS x y)
  | .lss => some ltS
  | .leq => some (fun x y => ltS x y || eqS x y)
  | .gtr => some (fun x y => !(ltS x y || eqS x y))
  | .geq => some (fun x y => !ltS x y)
  | _ => none

theorem s_two {x y : Operand} {op : BinOp} {t u : TypeId} {p q : Value} {r : Value} (ho : o.op = .binOp op t x y u) (hx : evalA T x = some (.v p)) (hy : evalA T y = some (.v q))
    (h : ∀ w, (do eqGuard op t x y p q; binOp op t p q : Sem Value).run P w = .ok r w) : Step P o N T H n (.v r) H n true :=
  Step.still fun Old wi K m S a w hr ht => by
    have hxx := ht.eval hx
    have hyy := ht.eval hy
    generalize hxv : a.eval x = xv at hxx
    generalize hyv : a.eval y = yv at hyy
    cases hxx
    cases hyy
    refine ⟨r, ?_, .v _ _⟩
    have := h w
    simp only [Sem.run_bind] at this
    simp only [execOp, ho, hxv, hyv, Sem.run_bind, Sem.run_pure]
    rw [this]
    rfl

theorem guard_int {op : BinOp} {t : TypeId} {x y : Operand} {k k' : IntKind} {p q : Int} : (eqGuard op t x y (.int k p) (.int k' q)).run P w = .ok () w := by
  cases op <;> rfl
theorem guard_str {op : BinOp} {t : TypeId} {x y : Operand} {p q : ByteArray} : (eqGuard op t x y (.string p) (.string q)).run P w = .ok () w := by
  cases op <;> rfl
theorem guard_bool {op : BinOp} {t : TypeId} {x y : Operand} {p q : Bool} : (eqGuard op t x y (.bool p) (.bool q)).run P w = .ok () w := by
  cases op <;> rfl

theorem s_arith {x y : Operand} {op : BinOp} {t u : TypeId} {k : IntKind} {p q : Int} {f : Int → Int → Int} (ho : o.op = .binOp op t x y u) (hx : evalA T x = some (.v (.int k p))) (hy : evalA T y = some (.v (.int k q)))
    (hf : arith op = some f) : Step P o N T H n (.v (.int k (k.wrap (f p q)))) H n true :=
  s_two ho hx hy fun w => by
    cases op <;> simp only [arith, Option.some.injEq] at hf <;> try (cases hf)
    all_goals (simp only [Sem.run_bind, guard_int, Result.andThen]; simp [binOp, Op.intArith])

theorem s_cmpI {x y : Operand} {op : BinOp} {t u : TypeId} {k : IntKind} {p q : Int} {f : Int → Int → Bool} (ho : o.op = .binOp op t x y u) (hx : evalA T x = some (.v (.int k p))) (hy : evalA T y = some (.v (.int k q)))
    (hf : cmpI op = some f) : Step P o N T H n (.v (.bool (f p q))) H n true :=
  s_two ho hx hy fun w => by
    cases op <;> simp only [cmpI, Option.some.injEq] at hf <;> try (cases hf)
    all_goals (simp only [Sem.run_bind, guard_int, Result.andThen]; simp [binOp, Op.intCmp])

theorem s_cmpS {x y : Operand} {op : BinOp} {t u : TypeId} {p q : ByteArray} {f : ByteArray → ByteArray → Bool} (ho : o.op = .binOp op t x y u) (hx : evalA T x = some (.v (.string p))) (hy : evalA T y = some (.v (.string q)))
    (hf : cmpS op = some f) : Step P o N T H n (.v (.bool (f p q))) H n true :=
  s_two ho hx hy fun w => by
    cases op <;> simp only [cmpS, Option.some.injEq] at hf <;> try (cases hf)
    all_goals (simp only [Sem.run_bind, guard_str, Result.andThen]; simp [binOp, Op.stringOp, eqS, ltS])

theorem s_cat {x y : Operand} {t u : TypeId} {p q : ByteArray} (ho : o.op = .binOp .add t x y u) (hx : evalA T x = some (.v (.string p))) (hy : evalA T y = some (.v (.string q)))
    (hb : p.size + q.size ≤ 9223372036854775807) : Step P o N T H n (.v (.string (p ++ q))) H n true :=
  s_two ho hx hy fun w => by
    have : ¬ (((p.size + q.size : Nat) : Int) > IntKind.i64.max) := by
      have : IntKind.i64.max = 9223372036854775807 := by decide
      omega
    simp only [Sem.run_bind, guard_str, Result.andThen]
    simp only [binOp, Op.stringOp, this, if_false]
    rfl

theorem s_quo {x y : Operand} {t u : TypeId} {k : IntKind} {p q : Int} (ho : o.op = .binOp .quo t x y u) (hx : evalA T x = some (.v (.int k p))) (hy : evalA T y = some (.v (.int k q)))
    (hq : q ≠ 0) : Step P o N T H n (.v (.int k (k.wrap (p.tdiv q)))) H n true :=
  s_two ho hx hy fun w => by
    simp only [Sem.run_bind, guard_int, Result.andThen]
    simp [binOp, Op.intDiv, hq]
theorem s_rem {x y : Operand} {t u : TypeId} {k : IntKind} {p q : Int} (ho : o.op = .binOp .rem t x y u) (hx : evalA T x = some (.v (.int k p))) (hy : evalA T y = some (.v (.int k q)))
    (hq : q ≠ 0) : Step P o N T H n (.v (.int k (p.tmod q))) H n true :=
  s_two ho hx hy fun w => by
    simp only [Sem.run_bind, guard_int, Result.andThen]
    simp [binOp, Op.intDiv, hq]

theorem tk_bool {d : TypeDesc} (htk : tkOf P d = .bool) : d = .bool := by
  cases d <;> simp only [tkOf] at htk
  case bool => rfl
  case struct => split at htk <;> cases htk
  case slice => split at htk <;> (try split at htk) <;> cases htk
  case array => split at htk <;> cases htk
  all_goals cases htk

theorem s_eqB {x y : Operand} {t u : TypeId} {ti : TI} {p q : Bool} (neg : Bool) (ho : o.op = .binOp (if neg then .neq else .eql) t x y u) (hty : tiOf P t = some ti) (hk : ti.k = .bool) (hx : evalA T x = some (.v (.bool p)))
    (hy : evalA T y = some (.v (.bool q))) : Step P o N T H n (.v (.bool (if neg then !(p == q) else (p == q)))) H n true := by
  obtain ⟨i, d, z, hi, hd, hzz, hsz, hagg, hby, hzl, htk⟩ := tiOf_spec hty
  rw [hk] at htk
  have hdd := tk_bool htk
  subst hdd
  refine s_two ho hx hy fun w => ?_
  cases neg <;> (simp only [Sem.run_bind, guard_bool, Result.andThen]; first | exact run_eql_bool w t p q hd | exact run_neq_bool w t p q hd)

theorem s_not {x : Operand} {t : TypeId} {p : Bool} (ho : o.op = .unOp .not t x) (hx : evalA T x = some (.v (.bool p))) : Step P o N T H n (.v (.bool (!p))) H n true :=
  Step.still fun Old wi K m S a w hr ht => by
    have hxx := ht.eval hx
    generalize hxv : a.eval x = xv at hxx
    cases hxx
    exact ⟨_, by simp only [execOp, ho, hxv]; rfl, .v _ _⟩
theorem s_neg {x : Operand} {t : TypeId} {k : IntKind} {p : Int} (ho : o.op = .unOp .neg t x) (hx : evalA T x = some (.v (.int k p))) : Step P o N T H n (.v (.int k (k.wrap (0 - p)))) H n true :=
  Step.still fun Old wi K m S a w hr ht => by
    have hxx := ht.eval hx
    generalize hxv : a.eval x = xv at hxx
    cases hxx
    exact ⟨_, by simp only [execOp, ho, hxv]; rfl, .v _ _⟩

theorem s_conv {x : Operand} {t u : TypeId} {ti tj : TI} {k k' : IntKind} {p : Int} (ho : o.op = .convert t u x) (hty : tiOf P u = some ti) (hk : ti.k = .int k') (hty2 : tiOf P t = some tj) (hx : evalA T x = some (.v (.int k p))) :
    Step P o N T H n (.v (.int k' (k'.wrap p))) H n true := by
  obtain ⟨i, d, z, hi, hd, hzz, hsz, hagg, hby, hzl, htk⟩ := tiOf_spec hty
  obtain ⟨i2, d2, z2, hi2, hd2, _⟩ := tiOf_spec hty2
  rw [hk] at htk
  have hdd : d = .int k' := by
    cases d <;> simp only [tkOf] at htk
    case int k => injection htk with h; rw [h]
    case struct => split at htk <;> cases htk
    case slice => split at htk <;> (try split at htk) <;> cases htk
    case array => split at htk <;> cases htk
    all_goals cases htk
  subst hdd
  refine Step.still fun Old wi K m S a w hr ht => ?_
  have hxx := ht.eval hx
  generalize hxv : a.eval x = xv at hxx
  cases hxx
  refine ⟨_, ?_, .v _ _⟩
  simp only [execOp, ho, hxv, convert, Sem.run_bind, run_underlying hd, run_underlying hd2, Result.andThen]
  cases d2 <;> rfl

theorem s_extract {x : Operand} {i : Nat} {vs : List AV} {av : AV} (ho : o.op = .extract x i) (hx : evalA T x = some (.tup vs)) (hi : vs[i]? = some av) : Step P o N T H n av H n true :=
  Step.still fun Old wi K m S a w hr ht => by
    have hxx := ht.eval hx
    generalize hxv : a.eval x = xv at hxx
    cases hxx with
    | tup _ _ xs hl hv =>
      have hlt : i < xs.length := by rw [hl]; exact (List.getElem?_eq_some_iff.1 hi).1
      have hy := List.getElem?_eq_getElem hlt
      refine ⟨_, ?_, hv i av _ hi hy⟩
      simp only [execOp, ho, hxv, Instr.extract, Sem.run_bind, List.getElem?_toArray, hy, Sem.run_pure, Result.andThen]
theorem s_extract_v {x : Operand} {i : Nat} {vs : Array Value} {av : Value} (ho : o.op = .extract x i) (hx : evalA T x = some (.v (.tuple vs))) (hi : vs[i]? = some av) : Step P o N T H n (.v av) H n true :=
  Step.still fun Old wi K m S a w hr ht => by
    have hxx := ht.eval hx
    generalize hxv : a.eval x = xv at hxx
    cases hxx
    refine ⟨_, ?_, .v _ _⟩
    simp only [execOp, ho, hxv, Instr.extract, Sem.run_bind, hi, Sem.run_pure, Result.andThen]

end
end Go.Proofs.Ytglfcaioapdiaaa.Aw
