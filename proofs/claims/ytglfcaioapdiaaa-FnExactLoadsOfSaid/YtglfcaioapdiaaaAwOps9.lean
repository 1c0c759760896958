/-
  Operations: cuts without room, slices whose room is known, cells written into rows: appending in place, copying, clearing.
-/
import Derived.Test.YtglfcaioapdiaaaAwOps8
import Derived.Test.YtglfcaioapdiaaaAwFun
import Derived.Laws.BytesString
namespace Go.Proofs.Ytglfcaioapdiaaa.Aw
open Go Go.RowKit
set_option linter.unusedSimpArgs false
set_option linter.unusedVariables false

def isSl : AV → Bool
  | .dsl _ _ => true
  | .sl _ _ _ => true
  | .sx _ _ _ _ => true
  | .emp => true
  | .v (.slice _ _ _) => true
  | _ => false
section
variable {P : Program} {Old : Nat → Prop} {wi : WI} {K : Nat → Prop} {m : Nat → Loc} {S : Nat → Prop} {H : Hp} {w : World} {N n : Nat} {T : Tp} {o : Oper}
theorem VR.isSl {av : AV} {x : Value} (h : VR K w m S av x) (hs : isSl av = true) : ∃ ad l c, x = .slice ad l c := by
  cases h with
  | v _ x => cases x <;> simp [Aw.isSl] at hs; exact ⟨_, _, _, rfl⟩
  | dsl0 => exact ⟨_, _, _, rfl⟩
  | dsl => exact ⟨_, _, _, rfl⟩
  | sl => exact ⟨_, _, _, rfl⟩
  | sl0 => exact ⟨_, _, _, rfl⟩
  | sx => exact ⟨_, _, _, rfl⟩
  | emp => exact ⟨_, _, _, rfl⟩
  | _ => simp [Aw.isSl] at hs
theorem s_slice_emp {t : TypeId} {ti : TI} {x y z : Operand} {e : TypeId} {es eb : Nat} {ez : List Value} {av : AV} {k k' : IntKind} (ho : o.op = .slice t x none (some y) (some z)) (hty : tiOf P t = some ti) (hk : ti.k = .slice e es eb ez) (hx : evalA T x = some av) (hav : isSl av = true)
    (hy : evalA T y = some (.v (.int k 0))) (hz : evalA T z = some (.v (.int k' 0))) : Step P o N T H n .emp H n true := by
  obtain ⟨i, d, zz, hi', hd, hzz, hsz, hagg, hby, hzl, htk⟩ := tiOf_spec hty
  rw [hk] at htk
  obtain ⟨ei, ezz, rfl, hei, _, hes, _, _⟩ := tk_slice htk
  refine Step.still fun Old wi K m S a w hr ht => ?_
  have hv := ht.eval hx
  obtain ⟨ad, l, c, hxv⟩ := hv.isSl hav
  have hvy := ht.eval hy
  generalize hyv : a.eval y = yv at hvy
  cases hvy
  have hvz := ht.eval hz
  generalize hzv : a.eval z = zv at hvz
  cases hvz
  refine ⟨.slice ad 0 0, ?_, .emp _ _⟩
  have hb : (Instr.sliceBounds true l c none (some (.int k 0)) (some (.int k' 0))).run P w = .ok (0, 0, 0) w := by
    simp [Instr.sliceBounds, Instr.sliceBound, asIntOf, Result.andThen]
  simp only [execOp, ho, hxv, hyv, hzv, Instr.sliceAt, Instr.slice, Sem.run_bind, run_underlying hd, Result.andThen, Option.map_none, Option.map_some, hb, Sem.run_pure, run_sizeOf w hei, Program.cellsOf, hei, Option.getD_some, Nat.sub_zero, if_true]

/-- appending onto a cut without room -/
theorem s_append_emp {x y : Operand} {t tx e : TypeId} {ti : TI} {es eb : Nat} {ez : List Value} {av : AV} {rows : List (List AV)} (pl : Bool) (ho : o.op = .call { callee := .builtin .append, args := #[x, y], argTypes := #[t, tx] }) (hty : tiOf P t = some ti)
    (hk : ti.k = .slice e es eb ez) (hx : evalA T x = some .emp) (hy : evalA T y = some av) (hs : SrcA P H es tx av rows) (hb : eb * (2 * rows.length) ≤ 281474976710656) (h63 : rows.length ≤ 9223372036854775807)
    (hz : ez.length = es) (hpl : pl = true → (rows.all fun r => r.all isV) = true) : Step P o N T H n (.sl n 0 rows.length) ((n, ⟨e, es, pl, rows⟩) :: H) (n + 1) true := by
  obtain ⟨i, d, z, hi, hd, hzz, hsz, hagg, hby, hzl, htk⟩ := tiOf_spec hty
  rw [hk] at htk
  obtain ⟨ei, ezz, rfl, hei, hezz, hes, heb, hezl⟩ := tk_slice htk
  have hzs : ezz.cells.size = es := by rw [← hz, ← hezl]; simp
  refine ⟨Nat.le_succ _, fun Old wi K m S a w hS hr ht next Q hnx => ?_⟩
  have hns : ¬ S n := hS n (Nat.le_refl _) (Nat.lt_succ_self _)
  have hvx := ht.eval hx
  generalize hxv : a.eval x = xv at hvx
  cases hvx with
  | emp _ ad =>
  obtain ⟨news, hsrc, hnews⟩ := hs _ _ _ _ _ _ _ hr (ht.eval hy)
  subst hes
  unfold Oper.wp
  by_cases h0 : rows.length = 0
  · have hrows : rows = [] := List.length_eq_zero_iff.1 h0
    subst hrows
    have hrun := run_app (P := P) ho hxv (w := w) (w' := w) (v := .slice ad 0 0) (run_app0 ad _ news hd hei hsrc)
    rw [hrun]
    refine hnx _ _ _ K ⟨fun i hi => updL_ne _ _ (fun e => hi (by omega)), GK.refl _ _, hr.phantom hns e ei.size pl, .sl0 _ n 0 _ (.inr ⟨Nat.le_refl _, Nat.lt_succ_self _⟩), fun _ _ => rfl, fun _ => ⟨Below.refl _ _, fun i h1 h2 h3 => ?_, fun _ h _ => h⟩⟩
    have : i = n := by omega
    subst this
    rw [updL_same] at h3
    cases h3
  · have hrun := run_app (P := P) ho hxv (run_append_grow_src (P := P) w t tx o.type e ei ezz hd hei hezz ad 0 0 [] (by cases ad <;> simp [run_firstCells_none, Builtin.firstCells, loadCells, loadCellsFrom]) _ rows.length news hsrc (by omega) (by omega)
      (by
        have := nextslicecap_le (need := 0 + rows.length) (old := 0) (by omega)
        have h2 : Builtin.nextslicecap (0 + rows.length) 0 * ei.bytes ≤ 2 * (0 + rows.length) * ei.bytes := Nat.mul_le_mul_right _ this
        rw [heb] at h2 ⊢
        rw [Nat.zero_add] at h2 ⊢
        rw [Nat.mul_comm (2 * rows.length)] at h2
        omega))
    rw [hrun]
    simp only [Nat.zero_add]
    have hge := grownCap_ge w rows.length 0 e
    have hcm : grownCap w rows.length 0 e ≤ maxLen := grownCap_le_maxLen w _ _ e (by simp only [maxLen]; omega)
    generalize grownCap w rows.length 0 e = cap at hge hcm
    have hg := grown_row (w := drw w (w.drawn + 1)) (K := K) (m := m) (S := S) (es := ei.size) (A := []) (B := rows) (olds := []) (news := news) (z := ezz.cells) (extra := cap - rows.length) (pl := pl) (by simp) (by simp)
      (fun r row hr => ⟨(hnews r row hr).1, fun j cv hj => by obtain ⟨y, h1, h2⟩ := (hnews r row hr).2 j cv hj; exact ⟨y, h1, h2.mono (fun _ h => h) (fun _ _ => rfl) (fun _ h => h) (fun _ _ => rfl)⟩⟩) hsrc.one hpl
    have hrel := (hr.drw (w.drawn + 1)).new hns ⟨e, ei.size, pl, rows⟩ cap ((([] : List Value) ++ news).toArray ++ Builtin.zeroCells ezz.cells (cap - rows.length)) hge hcm (fun hp r row hr j cv hj => all_rows (hpl hp) hr hj)
      (by simp only [List.nil_append, Array.size_append, List.size_toArray, zeroCells_size, hsrc.newsLen, hzs]; rw [← Nat.add_mul]; congr 1; omega) hg
    refine hnx _ _ _ K ⟨fun i hi => updL_ne _ _ (fun e => hi (by omega)), GK.refl _ _, hrel, ?_, fun k hk => Below.heap_alloc _ _ _ (hr.kb k hk), fun _ => ⟨(below_drw (Below.refl w.heap.size w) (w.drawn + 1)).alloc (Nat.le_refl w.heap.size) _, fun i h1 h2 _ => ?_, fun _ h _ => h⟩⟩
    · have hbk : (updL m n ⟨(drw w (w.drawn + 1)).heap.size, cap, ei.size, false⟩ n).blk = w.heap.size := by rw [updL_same]; rfl
      show VR K _ _ _ _ (.slice (some ⟨w.heap.size, 0, none⟩) rows.length cap)
      rw [← hbk]
      exact .sl _ n 0 _ 0 _ (.inr ⟨Nat.le_refl _, Nat.lt_succ_self _⟩) (by rw [updL_same]) (by simp) (by rw [updL_same]; simp)
    · have : i = n := by omega
      subst this
      rw [updL_same]
      exact Nat.le_refl _

/-- cells written into whole rows of a block of the call's own, at its known rows or right behind them -/
theorem Rel.fill (hr : Rel Old wi K m S H w) {id d : Nat} {b : Blk} {rows : List (List AV)} {news : List Value} (pl : Bool) (hl : look H id = some b) (hph : (m id).ph = false) (hd : d ≤ b.rows.length) (hcap : d + rows.length ≤ (m id).cap)
    (hnl : news.length = rows.length * b.size) (hone : ∀ u ∈ news, u.oneCell' = true)
    (hnews : ∀ (r : Nat) (row : List AV), rows[r]? = some row → row.length = b.size ∧ ∀ (j : Nat) (cv : AV), row[j]? = some cv → ∃ y, news[r * b.size + j]? = some y ∧ VR K w m S cv y)
    (hpl : pl = true → b.pl = true ∧ (rows.all fun r => r.all isV) = true) :
    ∃ cur, w.heap[(m id).blk]? = some (.cells cur b.ty (0, 0)) ∧ d * b.size + news.length ≤ cur.size ∧
      Rel Old wi K m S (setH H id ⟨b.ty, b.size, pl, b.rows.take d ++ rows ++ b.rows.drop (d + rows.length)⟩) (w.setRow (m id).blk (cur.toList.take (d * b.size) ++ news ++ cur.toList.drop (d * b.size + news.length)).toArray) := by
  have hbr := (hr.own id b hl).br hph
  obtain ⟨cur, c1, c2, c3⟩ := hbr.ex
  have hmul : (d + rows.length) * b.size ≤ (m id).cap * b.size := Nat.mul_le_mul_right _ hcap
  rw [Nat.add_mul] at hmul
  have hfit : d * b.size + news.length ≤ cur.size := by rw [hnl, c2]; exact hmul
  have hfl : d * b.size + news.length ≤ cur.toList.length := by simpa using hfit
  have hlA : (b.rows.take d).length = d := by rw [List.length_take]; omega
  refine ⟨cur, c1, hfit, ?_⟩
  have hold : ∀ (k : Nat), k < d * b.size → (cur.toList.take (d * b.size) ++ news ++ cur.toList.drop (d * b.size + news.length))[k]? = cur[k]? := fun k hk => by
    rw [splice_get _ _ _ _ hfl, if_pos hk, Array.getElem?_toList]
  have hnew : ∀ (k : Nat), k < news.length → (cur.toList.take (d * b.size) ++ news ++ cur.toList.drop (d * b.size + news.length))[d * b.size + k]? = news[k]? := fun k hk => by
    rw [splice_get _ _ _ _ hfl, if_neg (by omega), if_pos (by omega), Nat.add_sub_cancel_left]
  have hbeh : ∀ (k : Nat), d * b.size + news.length ≤ k → (cur.toList.take (d * b.size) ++ news ++ cur.toList.drop (d * b.size + news.length))[k]? = cur[k]? := fun k hk => by
    rw [splice_get _ _ _ _ hfl, if_neg (by omega), if_neg (by omega), Array.getElem?_toList]
  have vrS : ∀ {r : Nat} {row : List AV} {j : Nat} {cv : AV} {y : Value}, b.rows[r]? = some row → row[j]? = some cv → VR K w m (fun i => S i ∧ b.pl = false) cv y → VR K w m (fun i => S i ∧ pl = false) cv y := fun {r row j cv y} hr' hj h3 => by
    cases pl with
    | false => exact h3.mono (fun _ h => h) (fun _ _ => rfl) (fun _ h => ⟨h.1, rfl⟩) (fun _ _ => rfl)
    | true => exact h3.plain (hbr.plv (hpl rfl).1 r row hr' j cv hj)
  have key1 := cat_rows (A := b.rows.take d) (B := rows) (K := K) (w := w) (m := m) (S := fun i => S i ∧ pl = false) (S' := S) (sz := b.size) (c := fun k => (cur.toList.take (d * b.size) ++ news ++ cur.toList.drop (d * b.size + news.length))[k]?)
    (fun r row hr' => by
      rw [List.getElem?_take] at hr'
      split at hr'
      · rename_i hrl
        obtain ⟨k1, k2⟩ := c3 r row hr'
        refine ⟨k1, fun j cv hj => ?_⟩
        obtain ⟨y, h1, h2, h3⟩ := k2 j cv hj
        have hjl : j < b.size := by rw [← k1]; exact (List.getElem?_eq_some_iff.1 hj).1
        exact ⟨y, by rw [hold _ (flat_lt hrl hjl)]; exact h1, h2, vrS hr' hj h3⟩
      · cases hr')
    (fun r row hr' => by
      obtain ⟨k1, k2⟩ := hnews r row hr'
      refine ⟨k1, fun j cv hj => ?_⟩
      obtain ⟨y, h1, h2⟩ := k2 j cv hj
      refine ⟨y, ?_, hone y (List.mem_of_getElem? h1), h2.forPl fun e => all_rows (hpl e).2 hr' hj⟩
      show (cur.toList.take (d * b.size) ++ news ++ cur.toList.drop (d * b.size + news.length))[(b.rows.take d).length * b.size + (r * b.size + j)]? = some y
      rw [hlA, hnew _ (List.getElem?_eq_some_iff.1 h1).1]; exact h1)
  have hlB : (b.rows.take d ++ rows).length = d + rows.length := by rw [List.length_append, hlA]
  have key := cat_rows (A := b.rows.take d ++ rows) (B := b.rows.drop (d + rows.length)) (K := K) (w := w) (m := m) (S := fun i => S i ∧ pl = false) (S' := S) (sz := b.size) (c := fun k => (cur.toList.take (d * b.size) ++ news ++ cur.toList.drop (d * b.size + news.length))[k]?) key1
    (fun r row hr' => by
      rw [List.getElem?_drop] at hr'
      obtain ⟨k1, k2⟩ := c3 _ row hr'
      refine ⟨k1, fun j cv hj => ?_⟩
      obtain ⟨y, h1, h2, h3⟩ := k2 j cv hj
      refine ⟨y, ?_, h2, vrS hr' hj h3⟩
      show (cur.toList.take (d * b.size) ++ news ++ cur.toList.drop (d * b.size + news.length))[(b.rows.take d ++ rows).length * b.size + (r * b.size + j)]? = some y
      rw [hlB, ← Nat.add_assoc, ← Nat.add_mul, hbeh _ (by rw [hnl, ← Nat.add_mul, Nat.add_mul (d + rows.length)]; omega)]
      exact h1)
  refine Rel.sub (H := (id, _) :: H) ?_ (fun i c h => look_setH h)
  refine hr.write (b' := ⟨b.ty, b.size, pl, _⟩) hl hph _ rfl rfl rfl rfl rfl (by simp) (fun k hk => setRow_other _ _ _ _ hk) (setRow_heap _ _ _ _ _ _ c1) ?_ ?_ ?_ ?_
  · have := hbr.cap
    simp only [List.length_append, hlA, List.length_drop]
    omega
  · intro hp r row hr' j cv hj
    obtain ⟨p1, p2⟩ := hpl hp
    rcases List.mem_append.1 (List.mem_of_getElem? hr') with h | h
    · rcases List.mem_append.1 h with h | h
      · obtain ⟨q, hq⟩ := List.mem_iff_getElem?.1 (List.mem_of_mem_take h)
        exact hbr.plv p1 q row hq j cv hj
      · exact List.all_eq_true.1 (List.all_eq_true.1 p2 row h) cv (List.mem_of_getElem? hj)
    · obtain ⟨q, hq⟩ := List.mem_iff_getElem?.1 (List.mem_of_mem_drop h)
      exact hbr.plv p1 q row hq j cv hj
  · rw [← c2]; simp; omega
  · intro r row hr'
    obtain ⟨k1, k2⟩ := key r row hr'
    exact ⟨k1, fun j cv hj => by obtain ⟨y, h1, h2, h3⟩ := k2 j cv hj; exact ⟨y, by simpa using h1, h2, h3⟩⟩

/-- where the rows of a slice of the call's own begin -/
theorem VR.slAt {id row len : Nat} {av : AV} {x : Value} (h : VR K w m S av x) (hav : av = .sl id row len ∧ 0 < len ∨ ∃ C, av = .sx id row len C) : ∃ c, x = .slice (some ⟨(m id).blk, row * (m id).size, none⟩) len c ∧ (m id).ph = false ∧ c = (m id).cap - row := by
  rcases hav with ⟨rfl, h0⟩ | ⟨C, rfl⟩
  · cases h with
    | sl0 => omega
    | sl _ _ _ _ o c hS hp ho hc => subst ho; exact ⟨c, rfl, hp, hc⟩
  · cases h with
    | sx _ _ _ _ _ o c hS hp ho hcap hc => subst ho; exact ⟨c, rfl, hp, by rw [hcap]; exact hc⟩

theorem s_lenx {x : Operand} {t : TypeId} {ti : TI} {id row len C : Nat} {e : TypeId} {es eb : Nat} {ez : List Value} (ho : o.op = .call { callee := .builtin .len, args := #[x], argTypes := #[t] }) (hty : tiOf P t = some ti) (hk : ti.k = .slice e es eb ez) (hx : evalA T x = some (.sx id row len C)) :
    Step P o N T H n (.v (.int .i64 len)) H n true := by
  obtain ⟨i, d, z, hi, hd, hzz, hsz, hagg, hby, hzl, htk⟩ := tiOf_spec hty
  refine Step.still fun Old wi K m S a w hr ht => ?_
  have hv := ht.eval hx
  refine ⟨_, ?_, .v _ _⟩
  generalize hxv : a.eval x = xv at hv
  rw [hk] at htk
  obtain ⟨ei, ezz, rfl, hei, _, hes, _, _⟩ := tk_slice htk
  cases hv
  simp_all [execOp, resolve, invoke, builtin, Builtin.len_, run_underlying hd, goInt]
theorem s_capx {x : Operand} {t : TypeId} {ti : TI} {id row len C : Nat} {e : TypeId} {es eb : Nat} {ez : List Value} (ho : o.op = .call { callee := .builtin .cap, args := #[x], argTypes := #[t] }) (hty : tiOf P t = some ti) (hk : ti.k = .slice e es eb ez) (hx : evalA T x = some (.sx id row len C)) :
    Step P o N T H n (.v (.int .i64 ((C - row : Nat) : Int))) H n true := by
  obtain ⟨i, d, z, hi, hd, hzz, hsz, hagg, hby, hzl, htk⟩ := tiOf_spec hty
  refine Step.still fun Old wi K m S a w hr ht => ?_
  have hv := ht.eval hx
  refine ⟨_, ?_, .v _ _⟩
  generalize hxv : a.eval x = xv at hv
  rw [hk] at htk
  obtain ⟨ei, ezz, rfl, hei, _, hes, _, _⟩ := tk_slice htk
  cases hv
  simp_all [execOp, resolve, invoke, builtin, Builtin.cap_, run_underlying hd, goInt]

/-- a bound up to the room -/
theorem run_bounds_cap {a : Act} (ht : TRel K w m S N T a) {lo hi : Option Operand} {len cap l h : Nat} (hlo : Bnd T lo 0 l) (hhi : Bnd T hi len h) (h1 : l ≤ h) (h2 : h ≤ cap) :
    (Instr.sliceBounds true len cap (lo.map a.eval) (hi.map a.eval) none).run P w = .ok (l, h, cap) w := by
  have bd : ∀ {y : Operand} {k : IntKind} {q : Int} {v m' : Nat} (code : BoundsCode), evalA T y = some (.v (.int k q)) → 0 ≤ q → v = q.toNat → v ≤ m' → (Instr.sliceBound (a.eval y) m' code).run P w = .ok v w := by
    intro y k q v m' code h1 h2 h3 h4
    have hv := ht.eval h1
    generalize a.eval y = yv at hv
    cases hv
    subst h3
    simp only [Instr.sliceBound, asIntOf, Sem.run_bind, Sem.run_pure, Result.andThen]
    rw [if_pos ⟨h2, by omega⟩]
    rfl
  cases lo with
  | none =>
    cases hi with
    | none =>
      simp only [Bnd] at hlo hhi
      subst hlo hhi
      simp [Instr.sliceBounds]
    | some y =>
      simp only [Bnd] at hlo
      obtain ⟨k, q, e1, e2, e3⟩ := hhi
      subst hlo
      simp [Instr.sliceBounds, Result.andThen, bd _ e1 e2 e3 h2]
  | some x =>
    obtain ⟨k', q', f1, f2, f3⟩ := hlo
    cases hi with
    | none =>
      simp only [Bnd] at hhi
      subst hhi
      simp [Instr.sliceBounds, Result.andThen, bd _ f1 f2 f3 h1]
    | some y =>
      obtain ⟨k, q, e1, e2, e3⟩ := hhi
      simp [Instr.sliceBounds, Result.andThen, bd _ e1 e2 e3 h2, bd _ f1 f2 f3 h1]

/-- a cut of a slice whose room is known; behind its room's end there is none -/
theorem s_slice_sx {t : TypeId} {ti : TI} {x : Operand} {e : TypeId} {es eb : Nat} {ez : List Value} {id row len C ty0 : Nat} {pl0 : Bool} {br : List (List AV)} {lo hi : Option Operand} {l h : Nat} (ho : o.op = .slice t x lo hi none) (hty : tiOf P t = some ti)
    (hk : ti.k = .slice e es eb ez) (hx : evalA T x = some (.sx id row len C)) (hl : look H id = some ⟨ty0, es, pl0, br⟩) (hlo : Bnd T lo 0 l) (hhi : Bnd T hi len h) (h1 : l ≤ h) (h2 : h ≤ C - row) (h3 : l < C - row ∨ l = 0) :
    Step P o N T H n (.sx id (row + l) (h - l) C) H n true := by
  obtain ⟨i, d, z, hi', hd, hzz, hsz, hagg, hby, hzl, htk⟩ := tiOf_spec hty
  rw [hk] at htk
  obtain ⟨ei, ezz, rfl, hei, _, hes, _, _⟩ := tk_slice htk
  refine Step.still fun Old wi K m S a w hr ht => ?_
  have hv := ht.eval hx
  generalize hxv : a.eval x = xv at hv
  cases hv with
  | sx _ _ _ _ _ p c hS hph hp hcap hc =>
    have hbr := (hr.own id _ hl).br hph
    have := run_bounds_cap (P := P) (cap := c) ht hlo hhi h1 (by omega)
    refine ⟨.slice (some ⟨(m id).blk, p + l * es, none⟩) (h - l) (c - l), ?_, .sx _ _ _ _ _ _ _ hS hph ?_ hcap (by omega)⟩
    · simp only [execOp, ho, hxv, Instr.sliceAt, Instr.slice, Sem.run_bind, run_underlying hd, Result.andThen, Option.map_none, this, Sem.run_pure, run_sizeOf w hei, Program.cellsOf, hei, Option.map_some, Option.getD_some, hes]
      by_cases hl0 : l = 0
      · subst hl0; simp only [Nat.zero_mul, Go.WideShapes.add_plain, Nat.add_zero, ite_self, Option.map_some]
      · rw [if_neg (by omega), Go.WideShapes.add_plain]
    · have := hbr.sz
      simp only at this
      rw [hp, this, Nat.add_mul]
theorem s_slice_sxl {t : TypeId} {ti : TI} {x : Operand} {e : TypeId} {es eb : Nat} {ez : List Value} {id row len C ty0 : Nat} {pl0 : Bool} {br : List (List AV)} {lo hi : Option Operand} {l h : Nat} (ho : o.op = .slice t x lo hi none) (hty : tiOf P t = some ti)
    (hk : ti.k = .slice e es eb ez) (hx : evalA T x = some (.sx id row len C)) (hl : look H id = some ⟨ty0, es, pl0, br⟩) (hlo : Bnd T lo 0 l) (hhi : Bnd T hi len h) (h1 : l ≤ h) (h2 : h ≤ C - row) :
    Step P o N T H n (.sl id (row + l) (h - l)) H n true := by
  obtain ⟨i, d, z, hi', hd, hzz, hsz, hagg, hby, hzl, htk⟩ := tiOf_spec hty
  rw [hk] at htk
  obtain ⟨ei, ezz, rfl, hei, _, hes, _, _⟩ := tk_slice htk
  refine Step.still fun Old wi K m S a w hr ht => ?_
  have hv := ht.eval hx
  generalize hxv : a.eval x = xv at hv
  cases hv with
  | sx _ _ _ _ _ p c hS hph hp hcap hc =>
    have hbr := (hr.own id _ hl).br hph
    have := run_bounds_cap (P := P) (cap := c) ht hlo hhi h1 (by omega)
    by_cases hcl : c = l
    · have hlh : h = l := by omega
      subst hlh
      subst hcl
      refine ⟨.slice (some ⟨(m id).blk, p, none⟩) 0 0, ?_, by rw [Nat.sub_self]; exact .sl0 _ _ _ _ hS⟩
      simp only [execOp, ho, hxv, Instr.sliceAt, Instr.slice, Sem.run_bind, run_underlying hd, Result.andThen, Option.map_none, this, Sem.run_pure, run_sizeOf w hei, Program.cellsOf, hei, Option.map_some, Option.getD_some, hes, Nat.sub_self, if_true]
    · refine ⟨.slice (some ⟨(m id).blk, p + l * es, none⟩) (h - l) (c - l), ?_, .sl _ _ _ _ _ _ hS hph ?_ (by omega)⟩
      · simp only [execOp, ho, hxv, Instr.sliceAt, Instr.slice, Sem.run_bind, run_underlying hd, Result.andThen, Option.map_none, this, Sem.run_pure, run_sizeOf w hei, Program.cellsOf, hei, Option.map_some, Option.getD_some, hes, if_neg hcl, Go.WideShapes.add_plain]
      · have := hbr.sz
        simp only at this
        rw [hp, this, Nat.add_mul]

/-- a cut that only asks whether its bounds are right -/
theorem s_slice3 {t : TypeId} {ti : TI} {x y z u : Operand} {e : TypeId} {es eb : Nat} {ez : List Value} {id row len C ty0 : Nat} {pl0 : Bool} {br : List (List AV)} {k1 k2 k3 : IntKind} {q1 q2 q3 : Int} (ho : o.op = .slice t x (some y) (some z) (some u)) (hty : tiOf P t = some ti)
    (hk : ti.k = .slice e es eb ez) (hx : evalA T x = some (.sx id row len C)) (hl : look H id = some ⟨ty0, es, pl0, br⟩) (hy : evalA T y = some (.v (.int k1 q1))) (hz : evalA T z = some (.v (.int k2 q2))) (hu : evalA T u = some (.v (.int k3 q3)))
    (h0 : 0 ≤ q1) (h1 : q1 ≤ q2) (h2 : q2 ≤ q3) (h3 : q3 ≤ ((C - row : Nat) : Int)) (h4 : q1 < q3) : Step P o N T H n (.sx n (row + q1.toNat) (q2.toNat - q1.toNat) (row + q3.toNat)) H (n + 1) false := by
  obtain ⟨i, d, zz, hi', hd, hzz, hsz, hagg, hby, hzl, htk⟩ := tiOf_spec hty
  rw [hk] at htk
  obtain ⟨ei, ezz, rfl, hei, _, hes, _, _⟩ := tk_slice htk
  refine ⟨Nat.le_succ _, fun Old wi K m S a w hS hr ht next Q hnx => ?_⟩
  have hns : ¬ S n := hS n (Nat.le_refl _) (Nat.lt_succ_self _)
  have hv := ht.eval hx
  generalize hxv : a.eval x = xv at hv
  have hvy := ht.eval hy
  generalize hyv : a.eval y = yv at hvy
  cases hvy
  have hvz := ht.eval hz
  generalize hzv : a.eval z = zv at hvz
  cases hvz
  have hvu := ht.eval hu
  generalize huv : a.eval u = uv at hvu
  cases hvu
  cases hv with
  | sx _ _ _ _ _ p c hS1 hph hp hcap hc =>
    have hsize := ((hr.own id _ hl).br hph).sz
    simp only at hsize
    have hb : (Instr.sliceBounds true len c (some (.int k1 q1)) (some (.int k2 q2)) (some (.int k3 q3))).run P w = .ok (q1.toNat, q2.toNat, q3.toNat) w := by
      have b3 : (Instr.sliceBound (.int k3 q3) c .slice3Acap).run P w = .ok q3.toNat w := by
        simp only [Instr.sliceBound, asIntOf, Sem.run_bind, Sem.run_pure, Result.andThen]
        rw [if_pos ⟨by omega, by omega⟩]; rfl
      have b2 : (Instr.sliceBound (.int k2 q2) q3.toNat .slice3B).run P w = .ok q2.toNat w := by
        simp only [Instr.sliceBound, asIntOf, Sem.run_bind, Sem.run_pure, Result.andThen]
        rw [if_pos ⟨by omega, by omega⟩]; rfl
      have b1 : (Instr.sliceBound (.int k1 q1) q2.toNat .slice3C).run P w = .ok q1.toNat w := by
        simp only [Instr.sliceBound, asIntOf, Sem.run_bind, Sem.run_pure, Result.andThen]
        rw [if_pos ⟨by omega, by omega⟩]; rfl
      simp [Instr.sliceBounds, Result.andThen, b1, b2, b3]
    have hm : ∀ i, S i → updL m n ⟨(m id).blk, row + q3.toNat, es, false⟩ i = m i := fun i hi => updL_ne _ _ (fun e => hns (e ▸ hi))
    unfold Oper.wp
    have hrun : (execOp a.eval o).run P w = .ok (.value (.slice (some ⟨(m id).blk, p + q1.toNat * es, none⟩) (q2.toNat - q1.toNat) (q3.toNat - q1.toNat))) w := by
      simp only [execOp, ho, hxv, hyv, hzv, huv, Instr.sliceAt, Instr.slice, Sem.run_bind, run_underlying hd, Result.andThen, Option.map_some, hb, Sem.run_pure, run_sizeOf w hei, Program.cellsOf, hei, Option.getD_some, hes]
      rw [if_neg (by omega)]
      simp only [Option.map_some, Go.WideShapes.add_plain]
    rw [hrun]
    refine hnx _ _ _ K ⟨fun i hi => updL_ne _ _ (fun e => hi (by omega)), GK.refl _ _, hr.monoS (fun i hi => .inl hi) hm, ?_, fun _ _ => rfl, fun h => by cases h⟩
    have hbk : (updL m n ⟨(m id).blk, row + q3.toNat, es, false⟩ n) = ⟨(m id).blk, row + q3.toNat, es, false⟩ := updL_same _ _ _
    have : VR K w (updL m n ⟨(m id).blk, row + q3.toNat, es, false⟩) (addS S n (n + 1)) (.sx n (row + q1.toNat) (q2.toNat - q1.toNat) (row + q3.toNat)) (.slice (some ⟨(updL m n ⟨(m id).blk, row + q3.toNat, es, false⟩ n).blk, p + q1.toNat * es, none⟩) (q2.toNat - q1.toNat) (q3.toNat - q1.toNat)) :=
      .sx _ n _ _ _ _ _ (.inr ⟨Nat.le_refl _, Nat.lt_succ_self _⟩) (by rw [hbk]) (by rw [hbk]; simp only; rw [hp, hsize, Nat.add_mul]) (by rw [hbk]) (by omega)
    rw [hbk] at this
    exact this

theorem src_sx {size : Nat} {tx : TypeId} {rows : List (List AV)} {ti : TI} {e : TypeId} {es eb : Nat} {ez : List Value} {id r0 len C : Nat} {b : Blk} (hty : tiOf P tx = some ti) (hk : ti.k = .slice e es eb ez) (hl : look H id = some b) (hb : b.size = size) (hn : r0 + len ≤ b.rows.length) (he : (b.rows.drop r0).take len = rows) :
    SrcA P H size tx (.sx id r0 len C) rows := by
  intro Old wi K m S w x hr hv
  cases hv with
  | sx _ _ _ _ _ o c hS hph ho hcap hc => exact src_sl (len := len) hty hk hl hb hn he Old wi K m S w _ hr (.sl _ id r0 len o c hS hph ho (by rw [hcap]; exact hc))
/-- what a slice of the call's own holds, as far as it is asked -/
structure CpS (P : Program) (size len k : Nat) (x : Value) (news : List Value) (w : World) : Prop where
  len : ∀ w' : World, (Builtin.lenOf x).run P w' = .ok len w'
  cells : (Builtin.firstCells size k x).run P w = .ok news.toArray w
  newsLen : news.length = k * size
  one : ∀ u ∈ news, u.oneCell' = true
def CpA (P : Program) (H : Hp) (size : Nat) (av : AV) (len : Nat) (rows : List (List AV)) : Prop :=
  ∀ (Old : Nat → Prop) (wi : WI) (K : Nat → Prop) (m : Nat → Loc) (S : Nat → Prop) (w : World) (x : Value), Rel Old wi K m S H w → VR K w m S av x →
    ∃ news : List Value, CpS P size len rows.length x news w ∧ ∀ (r : Nat) (row : List AV), rows[r]? = some row → row.length = size ∧ ∀ (j : Nat) (cv : AV), row[j]? = some cv → ∃ y, news[r * size + j]? = some y ∧ VR K w m S cv y
theorem cp_src {size : Nat} {tx : TypeId} {av : AV} {rows : List (List AV)} (h : SrcA P H size tx av rows) : CpA P H size av rows.length rows := by
  intro Old wi K m S w x hr hv
  obtain ⟨news, h1, h2⟩ := h Old wi K m S w x hr hv
  exact ⟨news, ⟨h1.len, h1.cells, h1.newsLen, h1.one⟩, h2⟩
/-- the first rows of a slice of the call's own -/
theorem cp_own {size ty0 id row len k : Nat} {pl0 : Bool} {br rows : List (List AV)} {av : AV} (hav : av = .sl id row len ∧ 0 < len ∨ ∃ C, av = .sx id row len C) (hl : look H id = some ⟨ty0, size, pl0, br⟩) (hk : row + k ≤ br.length) (he : (br.drop row).take k = rows) : CpA P H size av len rows := by
  subst he
  intro Old wi K m S w x hr hv
  obtain ⟨c, rfl, hph, hc⟩ := hv.slAt hav
  have hbr := (hr.own id _ hl).br hph
  obtain ⟨cur, h1, h2, h3⟩ := hbr.ex
  simp only at h1 h2 h3
  have hsz := hbr.sz
  simp only at hsz
  have hkl : ((br.drop row).take k).length = k := by simp; omega
  have hcap := hbr.cap
  simp only at hcap
  have hmul : (row + k) * size ≤ (m id).cap * size := Nat.mul_le_mul_right _ (by omega)
  rw [Nat.add_mul] at hmul
  let news := (cur.toList.drop (row * size)).take (k * size)
  have hnl : news.length = k * size := by simp only [news, List.length_take, List.length_drop, Array.length_toList]; omega
  have cell : ∀ (q : Nat) (rw_ : List AV), ((br.drop row).take k)[q]? = some rw_ → rw_.length = size ∧ ∀ (j : Nat) (cv : AV), rw_[j]? = some cv → ∃ y, news[q * size + j]? = some y ∧ y.oneCell' = true ∧ VR K w m S cv y := by
    intro q rw_ hq
    rw [List.getElem?_take] at hq
    split at hq
    · rename_i hqk
      rw [List.getElem?_drop] at hq
      refine ⟨(h3 _ _ hq).1, fun j cv hj => ?_⟩
      obtain ⟨y, hy, hone, hvy⟩ := (h3 _ _ hq).2 j cv hj
      have hjl : j < size := by rw [← (h3 _ _ hq).1]; exact (List.getElem?_eq_some_iff.1 hj).1
      refine ⟨y, ?_, hone, hvy.mono (fun _ h => h) (fun _ _ => rfl) (fun _ h => h.1) (fun _ _ => rfl)⟩
      simp only [news]
      rw [List.getElem?_take, if_pos (flat_lt hqk hjl), List.getElem?_drop, Array.getElem?_toList, ← Nat.add_assoc, ← Nat.add_mul]
      exact hy
    · cases hq
  refine ⟨news, ⟨fun _ => rfl, ?_, by rw [hkl]; exact hnl, fun u hu => ?_⟩, fun r row_ hr' => ⟨(cell r row_ hr').1, fun j cv hj => ?_⟩⟩
  · rw [hkl]
    refine run_firstCells_some w size k ⟨(m id).blk, row * (m id).size, none⟩ len c news hnl fun j v hj => ?_
    simp only [news] at hj
    rw [List.getElem?_take] at hj
    split at hj
    · rw [List.getElem?_drop, Array.getElem?_toList] at hj
      rw [Go.WideShapes.add_plain, hsz, cell_of_row w _ _ _ _ _ h1]
      exact hj
    · cases hj
  · obtain ⟨q, hq⟩ := List.mem_iff_getElem?.1 hu
    have hql : q < k * size := by rw [← hnl]; exact (List.getElem?_eq_some_iff.1 hq).1
    have hs : 0 < size := by rcases Nat.eq_zero_or_pos size with e | e; · subst e; simp at hql
                             · exact e
    have hqr : q / size < k := by rw [Nat.div_lt_iff_lt_mul hs]; exact hql
    have hqj := Nat.mod_lt q hs
    have hrow := List.getElem?_eq_getElem (l := (br.drop row).take k) (i := q / size) (by omega)
    obtain ⟨e1, e2⟩ := cell _ _ hrow
    obtain ⟨y, hy, hone, _⟩ := e2 (q % size) _ (List.getElem?_eq_getElem (by omega))
    rw [show q / size * size + q % size = q by rw [Nat.mul_comm]; exact Nat.div_add_mod q size, hq] at hy
    simp only [Option.some.injEq] at hy
    rw [hy]; exact hone
  · obtain ⟨y, h1, _, h2⟩ := (cell r row_ hr').2 j cv hj
    exact ⟨y, h1, h2⟩

/-- cells copied into a slice of the call's own -/
theorem s_copy {x y : Operand} {t tx e : TypeId} {ti : TI} {es eb : Nat} {ez : List Value} {id row dl sl ty0 : Nat} {pl0 : Bool} {br : List (List AV)} {xa av : AV} {rows : List (List AV)} (pl : Bool) (ho : o.op = .call { callee := .builtin .copy, args := #[x, y], argTypes := #[t, tx] }) (hty : tiOf P t = some ti)
    (hk : ti.k = .slice e es eb ez) (hx : evalA T x = some xa) (hxa : xa = .sl id row dl ∧ 0 < dl ∨ ∃ C, xa = .sx id row dl C ∧ row + dl ≤ C) (hl : look H id = some ⟨ty0, es, pl0, br⟩) (hd : row ≤ br.length) (hdl : row + dl ≤ br.length ∨ ∃ C, xa = .sx id row dl C) (hy : evalA T y = some av) (hs : CpA P H es av sl rows) (hmin : rows.length = min sl dl)
    (hpl : pl = true → pl0 = true ∧ (rows.all fun r => r.all isV) = true) : Step P o N T H n (.v (.int .i64 (rows.length : Int))) (setH H id ⟨ty0, es, pl, br.take row ++ rows ++ br.drop (row + rows.length)⟩) n false := by
  obtain ⟨i, d, z, hi, hdd, hzz, hsz, hagg, hby, hzl, htk⟩ := tiOf_spec hty
  rw [hk] at htk
  obtain ⟨ei, ezz, rfl, hei, hezz, hes, heb, hezl⟩ := tk_slice htk
  refine ⟨Nat.le_refl _, fun Old wi K m S a w hS hr ht next Q hnx => ?_⟩
  have hvx := ht.eval hx
  obtain ⟨news, hsrc, hnews⟩ := hs _ _ _ _ _ _ _ hr (ht.eval hy)
  obtain ⟨c, hxv, hph, hc⟩ := hvx.slAt (hxa.imp (fun h => h) fun ⟨C, h, _⟩ => ⟨C, h⟩)
  have hbr := (hr.own id _ hl).br hph
  have hsize := hbr.sz
  simp only at hsize
  have hcapd : row + rows.length ≤ (m id).cap := by
    rcases hxa with ⟨e1, h0⟩ | ⟨C, e1, e2⟩
    · rcases hdl with h1 | ⟨C, h1⟩
      · have := hbr.cap; simp only at this; omega
      · rw [h1] at e1; cases e1
    · subst e1
      rw [hxv] at hvx
      cases hvx with
      | sx _ _ _ _ _ _ _ _ _ _ hcap _ => omega
  obtain ⟨cur, g1, g2, hrel⟩ := hr.fill (d := row) (rows := rows) (news := news) pl hl hph hd hcapd hsrc.newsLen hsrc.one hnews hpl
  have hst := run_storeCells_at P (m id).blk (row * es) ty0 news 0 cur w g1 (by simpa using g2) hsrc.one
  simp only [Nat.add_zero] at hst
  have hcp : (Builtin.copy_ #[t, tx] o.type #[a.eval x, a.eval y]).run P w = .ok (.int .i64 (rows.length : Int)) (w.setRow (m id).blk (cur.toList.take (row * es) ++ news ++ cur.toList.drop (row * es + news.length)).toArray) := by
    have hmin' : Nat.min sl dl = rows.length := by rw [hmin]
    have hcl := hsrc.cells
    simp only [Builtin.copy_, hxv, List.getElem?_toArray, List.getElem?_cons_zero, List.getElem?_cons_succ, Sem.run_bind, Sem.run_pure, Result.andThen, run_underlying hdd, hsrc.len, run_sizeOf w hei, Program.cellsOf, hei, Option.map_some, Option.getD_some, hes, hmin', hcl, hsize, hst, goInt]
  unfold Oper.wp
  have hrun : (execOp a.eval o).run P w = .ok (.value (.int .i64 (rows.length : Int))) (w.setRow (m id).blk (cur.toList.take (row * es) ++ news ++ cur.toList.drop (row * es + news.length)).toArray) := by
    simp [execOp, ho, resolve, invoke, builtin, hcp, Result.andThen]
  rw [hrun]
  have hm : ∀ i, S i → addS S n n i := fun i hi => .inl hi
  exact hnx _ _ m K ⟨fun _ _ => rfl, GK.refl _ _, hrel.monoS hm (fun _ _ => rfl), .v _ _, fun k hk => setRow_other _ _ _ _ (fun e => hbr.nk (e ▸ hk)), fun h => by cases h⟩

/-- appending where there is room: the same block -/
theorem s_append_sx {x y : Operand} {t tx e : TypeId} {ti : TI} {es eb : Nat} {ez : List Value} {id l C : Nat} {b : Blk} {av : AV} {rows : List (List AV)} (pl : Bool) (ho : o.op = .call { callee := .builtin .append, args := #[x, y], argTypes := #[t, tx] }) (hty : tiOf P t = some ti)
    (hk : ti.k = .slice e es eb ez) (hx : evalA T x = some (.sx id 0 l C)) (hl : look H id = some b) (hbs : b.size = es) (hlen : l ≤ b.rows.length) (hy : evalA T y = some av) (hs : SrcA P H es tx av rows) (hroom : l + rows.length ≤ C)
    (hpl : pl = true → b.pl = true ∧ (rows.all fun r => r.all isV) = true) :
    Step P o N T H n (.sx id 0 (l + rows.length) C) (setH H id ⟨b.ty, es, pl, b.rows.take l ++ rows ++ b.rows.drop (l + rows.length)⟩) n false := by
  obtain ⟨i, d, z, hi, hdd, hzz, hsz, hagg, hby, hzl, htk⟩ := tiOf_spec hty
  rw [hk] at htk
  obtain ⟨ei, ezz, rfl, hei, hezz, hes, heb, hezl⟩ := tk_slice htk
  refine ⟨Nat.le_refl _, fun Old wi K m S a w hS hr ht next Q hnx => ?_⟩
  have hvx := ht.eval hx
  obtain ⟨news, hsrc, hnews⟩ := hs _ _ _ _ _ _ _ hr (ht.eval hy)
  generalize hxv : a.eval x = xv at hvx
  cases hvx with
  | sx _ _ _ _ _ p c hS1 hph hp hcap hc =>
    have hbr := (hr.own id _ hl).br hph
    obtain ⟨cur, g1, g2, hrel⟩ := hr.fill (d := l) (rows := rows) (news := news) pl hl hph hlen (by omega) (by rw [hbs]; exact hsrc.newsLen) hsrc.one (by rw [hbs]; exact hnews) hpl
    rw [Nat.zero_mul] at hp
    subst hp
    rw [Nat.sub_zero] at hc
    subst hc
    rw [← hes] at hsrc
    have hrun := run_app (P := P) ho hxv (run_append_room_row (P := P) (w := w) (ty := o.type) hdd hei (m id).blk 0 l c _ rows.length news hsrc (by omega) b.ty cur g1 (by rw [hes, ← hbs]; omega))
    rw [hbs] at g2 hrel
    rw [hes, Nat.zero_add] at hrun
    unfold Oper.wp
    rw [hrun]
    have hm : ∀ i, S i → addS S n n i := fun i hi => .inl hi
    exact hnx _ _ m K ⟨fun _ _ => rfl, GK.refl _ _, hrel.monoS hm (fun _ _ => rfl), .sx _ _ _ _ _ _ _ (.inl hS1) hph (by simp) hcap (by simp), fun k hk => setRow_other _ _ _ _ (fun e => hbr.nk (e ▸ hk)), fun h => by cases h⟩

/-- the cells of a slice of the call's own set to zero -/
theorem s_clear {x : Operand} {t e : TypeId} {ti : TI} {es eb : Nat} {ez : List Value} {id row len ty0 : Nat} {pl0 : Bool} {br : List (List AV)} {xa : AV} (ho : o.op = .call { callee := .builtin .clear, args := #[x], argTypes := #[t] }) (hty : tiOf P t = some ti)
    (hk : ti.k = .slice e es eb ez) (hx : evalA T x = some xa) (hxa : xa = .sl id row len ∨ ∃ C, xa = .sx id row len C) (hl : look H id = some ⟨ty0, es, pl0, br⟩) (hn : row + len ≤ br.length) (hz : ez.length = es) (h1 : ez.all (·.oneCell') = true) :
    Step P o N T H n (.v (.tuple #[])) (setH H id ⟨ty0, es, pl0, br.take row ++ List.replicate len (ez.map .v) ++ br.drop (row + len)⟩) n false := by
  obtain ⟨i, d, z, hi, hdd, hzz, hsz, hagg, hby, hzl, htk⟩ := tiOf_spec hty
  rw [hk] at htk
  obtain ⟨ei, ezz, rfl, hei, hezz, hes, heb, hezl⟩ := tk_slice htk
  have hzs : ezz.cells.size = es := by rw [← hz, ← hezl]; simp
  refine ⟨Nat.le_refl _, fun Old wi K m S a w hS hr ht next Q hnx => ?_⟩
  have hvx := ht.eval hx
  have hm : ∀ i, S i → addS S n n i := fun i hi => .inl hi
  by_cases h0 : len = 0
  · subst h0
    have hsl : ∃ ad c, a.eval x = .slice ad 0 c := by
      rcases hxa with rfl | ⟨C, rfl⟩
      · generalize a.eval x = xv at hvx
        cases hvx <;> exact ⟨_, _, rfl⟩
      · generalize a.eval x = xv at hvx
        cases hvx; exact ⟨_, _, rfl⟩
    obtain ⟨ad, c, hxv⟩ := hsl
    have hcp : (Builtin.clear_ #[t] o.type #[.slice ad 0 c]).run P w = .ok (.tuple #[]) w := by
      cases ad <;> simp [Builtin.clear_, run_underlying hdd, Result.andThen]
    have hrun : (execOp a.eval o).run P w = .ok (.value (.tuple #[])) w := by
      simp [execOp, ho, resolve, invoke, builtin, hxv, hcp, Result.andThen]
    unfold Oper.wp
    rw [hrun]
    refine hnx _ _ m K ⟨fun _ _ => rfl, GK.refl _ _, ?_, .v _ _, fun k hk => rfl, fun h => by cases h⟩
    have : (⟨ty0, es, pl0, br.take row ++ List.replicate 0 (ez.map .v) ++ br.drop (row + 0)⟩ : Blk) = ⟨ty0, es, pl0, br⟩ := by simp
    rw [this]
    refine (hr.sub (H' := setH H id ⟨ty0, es, pl0, br⟩) fun i b hb => ?_).monoS hm (fun _ _ => rfl)
    have := look_setH hb
    rw [look_cons] at this
    split at this
    · rename_i e; subst e; rw [← this]; exact hl
    · exact this
  · obtain ⟨c, hxv, hph, hc⟩ := hvx.slAt (hxa.imp (fun h => ⟨h, by omega⟩) fun h => h)
    have hbr := (hr.own id _ hl).br hph
    have hsize := hbr.sz
    simp only at hsize
    have hcap := hbr.cap
    simp only at hcap
    have hzc : (Builtin.zeroCells ezz.cells len).toList.length = len * es := by rw [Array.length_toList, zeroCells_size, hzs]
    have hget : ∀ r j, r < len → j < es → (Builtin.zeroCells ezz.cells len).toList[r * es + j]? = ez[j]? := fun r j hr hj => by
      obtain ⟨d1, d2⟩ := divmod (r := r) hj
      have hlt := flat_lt hr hj
      rw [Array.getElem?_toList]
      simp only [Builtin.zeroCells, Array.getElem?_map, hzs]
      rw [Array.getElem?_range, if_pos hlt]
      simp only [Option.map_some, d2]
      have hjz : j < ezz.cells.size := by rw [hzs]; exact hj
      rw [← hezl, Array.getElem?_toList, Array.getElem?_eq_getElem hjz]
      simp [getElem!_pos, hjz]
    have hone : ∀ u ∈ (Builtin.zeroCells ezz.cells len).toList, u.oneCell' = true := by
      intro u hu
      obtain ⟨q, hq⟩ := List.mem_iff_getElem?.1 hu
      have hql : q < len * es := by rw [← hzc]; exact (List.getElem?_eq_some_iff.1 hq).1
      have hs : 0 < es := by rcases Nat.eq_zero_or_pos es with e | e; · subst e; simp at hql
                             · exact e
      have := hget (q / es) (q % es) (by rw [Nat.div_lt_iff_lt_mul hs]; exact hql) (Nat.mod_lt _ hs)
      rw [show q / es * es + q % es = q by rw [Nat.mul_comm]; exact Nat.div_add_mod q es, hq] at this
      exact List.all_eq_true.1 h1 u (List.mem_of_getElem? this.symm)
    have hN : ∀ (r : Nat) (row : List AV), (List.replicate len (ez.map AV.v))[r]? = some row → row.length = es ∧ ∀ (j : Nat) (cv : AV), row[j]? = some cv → ∃ y, (Builtin.zeroCells ezz.cells len).toList[r * es + j]? = some y ∧ VR K w m S cv y := by
      intro r rw_ hr'
      rw [List.getElem?_replicate] at hr'
      split at hr'
      · rename_i hrl
        simp only [Option.some.injEq] at hr'
        subst hr'
        refine ⟨by simpa using hz, fun j cv hj => ?_⟩
        rw [List.getElem?_map] at hj
        cases hzj : ez[j]? with
        | none => simp [hzj] at hj
        | some y =>
          simp only [hzj, Option.map_some, Option.some.injEq] at hj
          subst hj
          have hjl : j < es := by rw [← hz]; exact (List.getElem?_eq_some_iff.1 hzj).1
          exact ⟨y, by rw [hget _ _ hrl hjl]; exact hzj, .v _ _⟩
      · cases hr'
    have hP : pl0 = true → pl0 = true ∧ ((List.replicate len (ez.map AV.v)).all fun r => r.all isV) = true := by
      intro hp
      refine ⟨hp, List.all_eq_true.2 fun r hr' => ?_⟩
      rw [List.mem_replicate] at hr'
      rw [hr'.2, List.all_eq_true]
      intro c hc
      obtain ⟨u, _, rfl⟩ := List.mem_map.1 hc
      rfl
    obtain ⟨cur, g1, g2, hrel⟩ := hr.fill (d := row) (rows := List.replicate len (ez.map .v)) (news := (Builtin.zeroCells ezz.cells len).toList) pl0 hl hph (show row ≤ br.length by omega) (by rw [List.length_replicate]; omega) (by rw [hzc, List.length_replicate]) hone hN hP
    have hst := run_storeCells_at P (m id).blk (row * es) ty0 (Builtin.zeroCells ezz.cells len).toList 0 cur w g1 (by simpa using g2) hone
    simp only [Nat.add_zero] at hst
    have hzv : (zeroValue e).run P w = .ok ezz w := by simp only [zeroValue, Sem.run_bind, run_typeInfo w hei, Result.andThen, hezz, Sem.run_pure]
    have hcp : (Builtin.clear_ #[t] o.type #[a.eval x]).run P w = .ok (.tuple #[]) (w.setRow (m id).blk (cur.toList.take (row * es) ++ (Builtin.zeroCells ezz.cells len).toList ++ cur.toList.drop (row * es + (Builtin.zeroCells ezz.cells len).toList.length)).toArray) := by
      cases len with
      | zero => omega
      | succ len =>
        simp only [Builtin.clear_, hxv, List.getElem?_toArray, List.getElem?_cons_zero, Sem.run_bind, Sem.run_pure, Result.andThen, run_underlying hdd, hzv, hsize, hst]
    have hrun : (execOp a.eval o).run P w = .ok (.value (.tuple #[])) (w.setRow (m id).blk (cur.toList.take (row * es) ++ (Builtin.zeroCells ezz.cells len).toList ++ cur.toList.drop (row * es + (Builtin.zeroCells ezz.cells len).toList.length)).toArray) := by
      simp [execOp, ho, resolve, invoke, builtin, hcp, Result.andThen]
    unfold Oper.wp
    rw [hrun]
    simp only [List.length_replicate] at hrel
    exact hnx _ _ m K ⟨fun _ _ => rfl, GK.refl _ _, hrel.monoS hm (fun _ _ => rfl), .v _ _, fun k hk => setRow_other _ _ _ _ (fun e => hbr.nk (e ▸ hk)), fun h => by cases h⟩

def u8L (n : Int) : List AV := [.v (.int .u8 n)]
def bstr (ns : List Int) : ByteArray := ⟨(ns.map fun n => UInt8.ofNat n.toNat).toArray⟩
theorem foldl_bstr : ∀ (ns : List Int) (s : ByteArray), ns.foldl (fun r n => r.push (UInt8.ofNat n.toNat)) s = ⟨s.data ++ (ns.map fun n => UInt8.ofNat n.toNat).toArray⟩
  | [], s => by simp
  | n :: ns, s => by
    rw [List.foldl_cons, foldl_bstr ns]
    simp [ByteArray.push]
/-- bytes of the call's own as a string -/
theorem s_bytestr {x : Operand} {t u e : TypeId} {ti tj tk : TI} {eb id row len ty0 : Nat} {ez : List Value} {pl0 : Bool} {br : List (List AV)} {ns : List Int} (ho : o.op = .convert t u x) (hty : tiOf P t = some ti) (hk : ti.k = .slice e 1 eb ez) (hty2 : tiOf P u = some tj) (hk2 : tj.k = .str)
    (hty3 : tiOf P e = some tk) (hk3 : tk.k = .int .u8) (hx : evalA T x = some (.sl id row len)) (hl : look H id = some ⟨ty0, 1, pl0, br⟩) (h0 : 0 < len) (hn : row + len ≤ br.length) (he : (br.drop row).take len = ns.map u8L) : Step P o N T H n (.v (.string (bstr ns))) H n true := by
  obtain ⟨i, d, z, hi, hdd, hzz, hsz, hagg, hby, hzl, htk⟩ := tiOf_spec hty
  rw [hk] at htk
  obtain ⟨ei, ezz, rfl, hei, hezz, hes, heb, hezl⟩ := tk_slice htk
  obtain ⟨i2, d2, z2, hi2, hd2, _, _, _, _, _, htk2⟩ := tiOf_spec hty2
  rw [hk2] at htk2
  have := tk_str htk2
  subst this
  obtain ⟨i3, d3, z3, hi3, hd3, _, _, _, _, _, htk3⟩ := tiOf_spec hty3
  rw [hk3] at htk3
  have hdd3 : d3 = .int .u8 := by
    cases d3 <;> simp only [tkOf] at htk3
    case int k => injection htk3 with h; rw [h]
    case struct => split at htk3 <;> cases htk3
    case slice => split at htk3 <;> (try split at htk3) <;> cases htk3
    case array => split at htk3 <;> cases htk3
    all_goals cases htk3
  subst hdd3
  refine Step.still fun Old wi K m S a w hr ht => ?_
  have hv := ht.eval hx
  obtain ⟨news, hsrc, hnews⟩ := cp_own (P := P) (.inl ⟨rfl, h0⟩) hl hn rfl Old wi K m S w _ hr hv
  obtain ⟨c, hxv, hph, hc⟩ := hv.slAt (.inl ⟨rfl, h0⟩)
  have hlen : ((br.drop row).take len).length = len := by simp; omega
  have hnl : ns.length = len := by rw [← hlen, he, List.length_map]
  have hne : news = ns.map (Value.int .u8) := by
    apply List.ext_getElem?
    intro q
    have hl2 : news.length = len := by rw [hsrc.newsLen, hlen, Nat.mul_one]
    by_cases hq : q < len
    · have hr2 : ((br.drop row).take len)[q]? = some (u8L (ns[q]'(by omega))) := by rw [he, List.getElem?_map, List.getElem?_eq_getElem (by omega)]; rfl
      obtain ⟨y, hy, hvy⟩ := (hnews q _ hr2).2 0 (.v (.int .u8 (ns[q]'(by omega)))) rfl
      cases hvy
      rw [Nat.mul_one, Nat.add_zero] at hy
      rw [hy, List.getElem?_map, List.getElem?_eq_getElem (by omega)]
      rfl
    · rw [List.getElem?_eq_none (by omega), List.getElem?_eq_none (by simp; omega)]
  refine ⟨_, ?_, .v _ _⟩
  have hcl := hsrc.cells
  rw [hxv, hlen, hne] at hcl
  simp only [Builtin.firstCells, Nat.mul_one] at hcl
  simp only [execOp, ho, hxv, Sem.run_bind, run_convert_bytes_string w t u e _ len c hdd hd3 hd2, run_bytesToString w _ len c ns hcl, Result.andThen, Sem.run_pure]
  rw [foldl_bstr]
  simp [bstr, ByteArray.empty, ByteArray.emptyWithCapacity]
  rfl
/-- a slice that is not empty, met with nil -/
theorem s_nild {x y : Operand} {t u : TypeId} {ti : TI} {e : TypeId} {es eb : Nat} {ez : List Value} {sz : Nat} {rows : List (List AV)} (neg : Bool) (ho : o.op = .binOp (if neg then .neq else .eql) t x y u) (hty : tiOf P t = some ti) (hk : ti.k = .slice e es eb ez)
    (hx : evalA T x = some (.dsl sz rows)) (hy : evalA T y = some (.v (.slice none 0 0))) (h0 : 0 < rows.length) : Step P o N T H n (.v (.bool neg)) H n true := by
  refine Step.still fun Old wi K m S a w hr ht => ?_
  obtain ⟨b, hb, hrun⟩ := nil_any (K := K) (w := w) (m := m) (S := S) neg ho hty hk hx hy ht
  have : b = false := by
    cases b with
    | false => rfl
    | true => rw [hb rfl] at h0; simp at h0
  subst this
  exact ⟨_, hrun, by cases neg <;> exact .v _ _⟩
end

section
variable {P : Program} {N g n : Nat} {Q : Exit → Tp → Hp → Nat → Prop} {T : Tp} {H : Hp}
/-- a slice that has elements lies in a block; the room behind it is some number -/
theorem aw_sx {c : Code} {t id row len : Nat} {b : Blk} (h : look T t = some (.sl id row len)) (hl : look H id = some b) (h0 : 0 < len) (hc : ∀ C, b.rows.length ≤ C → C ≤ 9223372036854775807 → AW P N g c Q ((t, .sx id row len C) :: T) H n) : AW P N g c Q T H n := fun Old wi K m a w hp hr ht => by
  have hv := ht.tm t _ h
  generalize hx : a.tmps.getD t undef = x at hv
  cases hv with
  | sl0 => omega
  | sl _ _ _ _ o cc hS hph ho hcc =>
    have hbr := (hr.own id b hl).br hph
    refine hc (m id).cap hbr.cap (by have := hbr.capm; simpa [maxLen] using this) Old wi K m a w hp hr ⟨ht.dn, ht.sz, fun u av hu => ?_⟩
    rw [look_cons] at hu
    split at hu
    · rename_i e
      subst e
      simp only [Option.some.injEq] at hu
      subst hu
      rw [hx]
      exact .sx _ _ _ _ _ o cc hS hph ho rfl hcc
    · exact ht.tm u av hu
/-- a block's last rows are let go -/
theorem aw_cut {c : Code} {id k ty sz : Nat} {pl : Bool} {rows : List (List AV)} (h : look H id = some ⟨ty, sz, pl, rows⟩) (hc : AW P N g c Q T (setH H id ⟨ty, sz, pl, rows.take k⟩) n) : AW P N g c Q T H n := fun Old wi K m a w hp hr ht => by
  refine hc Old wi K m a w hp ?_ ht
  refine Rel.sub (H := (id, ⟨ty, sz, pl, rows.take k⟩) :: H) ?_ (fun i c h => look_setH h)
  have hown := hr.own id _ h
  have any : ∀ i b, look ((id, (⟨ty, sz, pl, rows.take k⟩ : Blk)) :: H) i = some b → ∃ b', look H i = some b' := by
    intro i b hl
    rw [look_cons] at hl
    split at hl
    · rename_i e; subst e; exact ⟨_, h⟩
    · exact ⟨b, hl⟩
  refine { hr with inS := fun i b hl => ?_, own := fun i b hl => ?_, oown := fun i b hl => ?_, om := fun i b hl => ?_, inj := fun i j bi bj hi hj hne => ?_ }
  · obtain ⟨b', hb'⟩ := any i b hl; exact hr.oown i b' hb'
  · rw [look_cons] at hl
    split at hl
    · rename_i e; subst e; simp only [Option.some.injEq] at hl; subst hl; exact fun hp hq => hr.om id ⟨ty, sz, pl, rows⟩ h hp hq
    · exact hr.om i b hl
  · obtain ⟨b', hb'⟩ := any i b hl; exact hr.inS i b' hb'
  · rw [look_cons] at hl
    split at hl
    · rename_i e
      subst e
      simp only [Option.some.injEq] at hl
      subst hl
      rcases hown with ⟨p1, p2⟩ | ⟨p1, hb⟩
      · exact .inl ⟨p1, by simp only at p2; subst p2; simp⟩
      · refine .inr ⟨p1, hb.nk, hb.sz, ?_, hb.capm, fun hp r row hr' => ?_, ?_⟩
        · have := hb.cap; simp only [List.length_take] at this ⊢; omega
        · simp only [List.getElem?_take] at hr'
          split at hr'
          · exact hb.plv hp r row hr'
          · cases hr'
        · obtain ⟨cur, c1, c2, c3⟩ := hb.ex
          refine ⟨cur, c1, c2, fun r row hr' => ?_⟩
          simp only [List.getElem?_take] at hr'
          split at hr'
          · exact c3 r row hr'
          · cases hr'
    · exact hr.own i b hl
  · obtain ⟨bi', hi'⟩ := any i bi hi
    obtain ⟨bj', hj'⟩ := any j bj hj
    exact hr.inj i j bi' bj' hi' hj' hne
theorem aw_wk {c : Code} {t id row len C : Nat} (h : look T t = some (.sx id row len C)) (hc : AW P N g c Q ((t, .sl id row len) :: T) H n) : AW P N g c Q T H n := fun Old wi K m a w hp hr ht => by
  have hv := ht.tm t _ h
  generalize hx : a.tmps.getD t undef = x at hv
  cases hv with
  | sx _ _ _ _ _ o cc hS hph ho hcap hcc =>
    refine hc Old wi K m a w hp hr ⟨ht.dn, ht.sz, fun u av hu => ?_⟩
    rw [look_cons] at hu
    split at hu
    · rename_i e
      subst e
      simp only [Option.some.injEq] at hu
      subst hu
      rw [hx]
      exact .sl _ _ _ _ o cc hS hph ho (by rw [hcap]; exact hcc)
    · exact ht.tm u av hu
end

end Go.Proofs.Ytglfcaioapdiaaa.Aw
