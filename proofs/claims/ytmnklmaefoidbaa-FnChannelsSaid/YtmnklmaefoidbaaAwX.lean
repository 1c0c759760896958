/-
  Further moves of a walk.
-/
import Derived.Test.YtmnklmaefoidbaaAwL
import Derived.Laws.Externs
import Derived.Lib.Overlaps
import Derived.Lib.AppendZerosOnto
namespace Go.Proofs.Ytmnklmaefoidbaa.Aw
open Go Go.RowKit
set_option linter.unusedVariables false
set_option linter.unusedSimpArgs false

theorem tk_int {P : Program} {d : TypeDesc} {k : IntKind} (htk : tkOf P d = .int k) : d = .int k := by
  cases d <;> simp only [tkOf] at htk
  case int k' => injection htk with h; rw [h]
  case struct => split at htk <;> cases htk
  case slice => split at htk <;> (try split at htk) <;> cases htk
  case array => split at htk <;> cases htk
  all_goals cases htk
/-- zeros behind a slice that has no room for them: a new block; the old one stays -/
theorem s_append_zeros {P : Program} {H : Hp} {N n : Nat} {T : Tp} {o : Oper} {x y : Operand} {t tx e : TypeId} {ti tj : TI} {es eb : Nat} {ez : List Value} {id l C k ty0 : Nat} {kq kn : IntKind} {pl0 : Bool} {br : List (List AV)} (ho : o.op = .call { callee := .builtin .append, args := #[x, y], argTypes := #[t, tx] }) (hty : tiOf P t = some ti)
    (hk : ti.k = .slice e es eb ez) (hty2 : tiOf P tx = some tj) (hk2 : tj.k = .int kn) (hx : evalA T x = some (.sx id 0 l C)) (hl : look H id = some ⟨ty0, es, pl0, br⟩) (hlen : l ≤ br.length) (hy : evalA T y = some (.v (.int kq (k : Int)))) (h0 : 0 < k) (hroom : C < l + k) (hes : 0 < es)
    (hb : eb * (2 * (l + k)) ≤ 281474976710656) (h63 : l + k ≤ 9223372036854775807) (hz : ez.length = es) (hz1 : ez.all (·.oneCell') = true) :
    Step P o N T H n (.sl n 0 (l + k)) ((n, ⟨e, es, pl0, br.take l ++ List.replicate k (ez.map .v)⟩) :: H) (n + 1) false := by
  obtain ⟨i, d, z, hi, hd, hzz, hsz, hagg, hby, hzl, htk⟩ := tiOf_spec hty
  rw [hk] at htk
  obtain ⟨ei, ezz, rfl, hei, hezz, hes', heb, hezl⟩ := tk_slice htk
  obtain ⟨i2, d2, z2, hi2, hd2, _, _, _, _, _, htk2⟩ := tiOf_spec hty2
  rw [hk2] at htk2
  have := tk_int htk2
  subst this
  have hzs : ezz.cells.size = es := by rw [← hz, ← hezl]; simp
  refine ⟨Nat.le_succ _, fun Old wi K m S a w hS hr ht next Q hnx => ?_⟩
  have hns : ¬ S n := hS n (Nat.le_refl _) (Nat.lt_succ_self _)
  have hvx := ht.eval hx
  have hvy := ht.eval hy
  generalize hxv : a.eval x = xv at hvx
  generalize hyv : a.eval y = yv at hvy
  cases hvy
  subst hes'
  cases hvx with
  | sx _ _ _ _ _ p c hS1 hph hp hcap hc =>
    rw [Nat.zero_mul] at hp
    subst hp
    rw [Nat.sub_zero] at hc
    subst hc
    have hbr := (hr.own id _ hl).br hph
    obtain ⟨cur, c1, c2, c3⟩ := hbr.ex
    simp only at c1 c2 c3
    have hcapb := hbr.cap
    simp only at hcapb
    have hlA : (br.take l).length = l := by rw [List.length_take]; omega
    have hlc : l * ei.size ≤ cur.size := by
      have h1 : l ≤ (m id).cap := Nat.le_trans hlen hcapb
      rw [c2]; exact Nat.mul_le_mul_right _ h1
    have hol : (cur.toList.take (l * ei.size)).length = (br.take l).length * ei.size := by rw [hlA, List.length_take]; simp; omega
    have hfc : (Builtin.firstCells ei.size l (.slice (some ⟨(m id).blk, 0, none⟩) l c)).run P w.drew = .ok (cur.toList.take (l * ei.size)).toArray w.drew := by
      refine run_firstCells_some w.drew ei.size l ⟨(m id).blk, 0, none⟩ l c _ (by rw [hol, hlA]) fun j v hj => ?_
      rw [List.getElem?_take] at hj
      split at hj
      · rw [Array.getElem?_toList] at hj
        rw [Go.WideShapes.add_plain, Nat.zero_add]
        rw [cell_of_row w.drew _ _ _ _ _ c1]
        exact hj
      · cases hj
    have hfit : Builtin.nextslicecap (l + k) c * ei.bytes ≤ 281474976710656 := by
      have := nextslicecap_le (need := l + k) (old := c) (by omega)
      have h2 : Builtin.nextslicecap (l + k) c * ei.bytes ≤ 2 * (l + k) * ei.bytes := Nat.mul_le_mul_right _ this
      rw [heb] at h2 ⊢
      rw [Nat.mul_comm (2 * (l + k))] at h2
      omega
    have hkb : k * ei.bytes ≤ 281474976710656 := by
      have h2 : k * ei.bytes ≤ 2 * (l + k) * ei.bytes := Nat.mul_le_mul_right _ (by omega)
      rw [heb] at h2 ⊢
      rw [Nat.mul_comm (2 * (l + k))] at h2
      omega
    have hrun := Lib.run_append_grow_zeros (P := P) w t tx o.type e ei ezz kq kn hd hd2 hei hezz (some ⟨(m id).blk, 0, none⟩) l c _ hfc k h0 hes hroom (by omega) hkb hfit
    have hrun2 : (execOp a.eval o).run P w = .ok (.value (.slice (some ⟨w.heap.size, 0, none⟩) (l + k) (grownCap w (l + k) c e))) (w.drew.alloc (.cells ((cur.toList.take (l * ei.size)).toArray ++ Builtin.zeroCells ezz.cells k ++ Builtin.zeroCells ezz.cells (grownCap w (l + k) c e - (l + k))) e)) := by
      simp [execOp, ho, resolve, invoke, builtin, hxv, hyv, hrun, Result.andThen]
    have hge := grownCap_ge w (l + k) c e
    have hcm : grownCap w (l + k) c e ≤ maxLen := grownCap_le_maxLen w _ _ e (by simp only [maxLen]; omega)
    unfold Oper.wp
    rw [hrun2]
    generalize grownCap w (l + k) c e = cap at hge hcm
    have hget : ∀ r j, r < k → j < ei.size → (Builtin.zeroCells ezz.cells k).toList[r * ei.size + j]? = ez[j]? := fun r j hr hj => by
      obtain ⟨d1, d2⟩ := divmod (r := r) hj
      have hlt := flat_lt hr hj
      rw [Array.getElem?_toList]
      simp only [Builtin.zeroCells, Array.getElem?_map, hzs]
      rw [Array.getElem?_range, if_pos hlt]
      simp only [Option.map_some, d2]
      have hjz : j < ezz.cells.size := by rw [hzs]; exact hj
      rw [← hezl, Array.getElem?_toList, Array.getElem?_eq_getElem hjz]
      simp [getElem!_pos, hjz]
    have hzc : (Builtin.zeroCells ezz.cells k).toList.length = k * ei.size := by rw [Array.length_toList, zeroCells_size, hzs]
    have hone : ∀ u ∈ (Builtin.zeroCells ezz.cells k).toList, u.oneCell' = true := by
      intro u hu
      obtain ⟨q, hq⟩ := List.mem_iff_getElem?.1 hu
      have hql : q < k * ei.size := by rw [← hzc]; exact (List.getElem?_eq_some_iff.1 hq).1
      have := hget (q / ei.size) (q % ei.size) (by rw [Nat.div_lt_iff_lt_mul hes]; exact hql) (Nat.mod_lt _ hes)
      rw [show q / ei.size * ei.size + q % ei.size = q by rw [Nat.mul_comm]; exact Nat.div_add_mod q ei.size, hq] at this
      exact List.all_eq_true.1 hz1 u (List.mem_of_getElem? this.symm)
    have hpl : pl0 = true → ((br.take l ++ List.replicate k (ez.map AV.v)).all fun r => r.all isV) = true := fun hp => by
      rw [List.all_append, Bool.and_eq_true, List.all_eq_true, List.all_eq_true]
      refine ⟨fun r hr' => ?_, fun r hr' => ?_⟩
      · rw [List.all_eq_true]
        intro cv hcv
        obtain ⟨j, hj⟩ := List.mem_iff_getElem?.1 (List.mem_of_mem_take hr')
        obtain ⟨q, hq⟩ := List.mem_iff_getElem?.1 hcv
        exact hbr.plv hp j r hj q cv hq
      · rw [(List.mem_replicate.1 hr').2, List.all_eq_true]
        intro cv hcv
        obtain ⟨u, _, rfl⟩ := List.mem_map.1 hcv
        rfl
    have hg := grown_row (w := drw w (w.drawn + 1)) (K := K) (m := m) (S := S) (es := ei.size) (A := br.take l) (B := List.replicate k (ez.map AV.v)) (olds := cur.toList.take (l * ei.size)) (news := (Builtin.zeroCells ezz.cells k).toList) (z := ezz.cells) (extra := cap - (l + k)) (pl := pl0) hol
      (fun r row hr' => by
        rw [List.getElem?_take] at hr'
        split at hr'
        · rename_i hrl
          obtain ⟨k1, k2⟩ := c3 r row hr'
          refine ⟨k1, fun j cv hj => ?_⟩
          obtain ⟨y, h1, h2, h3⟩ := k2 j cv hj
          have hjl : j < ei.size := by rw [← k1]; exact (List.getElem?_eq_some_iff.1 hj).1
          refine ⟨y, ?_, h2, h3.mono (fun _ h => h) (fun _ _ => rfl) (fun _ h => h.1) (fun _ _ => rfl)⟩
          rw [List.getElem?_take, if_pos (flat_lt hrl hjl), Array.getElem?_toList]
          exact h1
        · cases hr')
      (fun r row hr' => by
        rw [List.getElem?_replicate] at hr'
        split at hr'
        · rename_i hrl
          simp only [Option.some.injEq] at hr'
          subst hr'
          refine ⟨by simpa using hz, fun j cv hj => ?_⟩
          rw [List.getElem?_map] at hj
          cases hzj : ez[j]? with
          | none => simp [hzj] at hj
          | some y =>
            simp only [hzj, Option.map_some, Option.some.injEq] at hj
            subst hj
            have hjl : j < ei.size := by rw [← hz]; exact (List.getElem?_eq_some_iff.1 hzj).1
            exact ⟨y, by rw [hget _ _ hrl hjl]; exact hzj, .v _ _⟩
        · cases hr') hone hpl
    have hrel := (hr.drw (w.drawn + 1)).new hns ⟨e, ei.size, pl0, br.take l ++ List.replicate k (ez.map .v)⟩ cap ((cur.toList.take (l * ei.size) ++ (Builtin.zeroCells ezz.cells k).toList).toArray ++ Builtin.zeroCells ezz.cells (cap - (l + k))) (by simp only [List.length_append, hlA, List.length_replicate]; exact hge) hcm (fun hp r row hr' j cv hj => all_rows (hpl hp) hr' hj)
      (by simp only [Array.size_append, List.size_toArray, List.length_append, zeroCells_size, hzc, hzs, hol, hlA]; rw [← Nat.add_mul, ← Nat.add_mul]; congr 1; omega) hg
    have he : ((cur.toList.take (l * ei.size)).toArray ++ Builtin.zeroCells ezz.cells k) = (cur.toList.take (l * ei.size) ++ (Builtin.zeroCells ezz.cells k).toList).toArray := by
      apply Array.ext'; simp
    rw [he]
    refine hnx _ _ _ K ⟨fun i hi => updL_ne _ _ (fun e => hi (by omega)), GK.refl _ _, hrel, ?_, fun k hk => Below.heap_alloc _ _ _ (hr.kb k hk), fun h => by cases h⟩
    have hbk : (updL m n ⟨(drw w (w.drawn + 1)).heap.size, cap, ei.size, false⟩ n).blk = w.heap.size := by rw [updL_same]; rfl
    show VR K _ _ _ _ (.slice (some ⟨w.heap.size, 0, none⟩) (l + k) cap)
    rw [← hbk]
    exact .sl _ n 0 _ 0 _ (.inr ⟨Nat.le_refl _, Nat.lt_succ_self _⟩) (by rw [updL_same]) (by simp) (by rw [updL_same]; simp)
section
variable {P : Program} {N n n' : Nat} {all : Array Oper} {l : List Oper} {G : Tp → Hp → Nat → Prop} {T : Tp} {H : Hp} {ty : TypeId} {pos : String} {after : Array Edge} {d : Nat}
/-- a cut with three bounds, for its bounds alone -/
theorem q_sl3 {x y z u : Operand} {t e : TypeId} {ti : TI} {es eb id row len C ty0 : Nat} {ez : List Value} {pl0 : Bool} {br : List (List AV)} {k1 k2 k3 : IntKind} {q1 q2 q3 : Int} (hd : Nat.blt d N = true) (hx : evalA T x = some (.sx id row len C)) (hy : evalA T y = some (.v (.int k1 q1))) (hz : evalA T z = some (.v (.int k2 q2))) (hu : evalA T u = some (.v (.int k3 q3)))
    (hl : look H id = some ⟨ty0, es, pl0, br⟩) (hty : tiOf P t = some ti) (hk0 : ti.k = .slice e es eb ez) (h0 : 0 ≤ q1) (h1 : q1 ≤ q2) (h2 : q2 ≤ q3) (h3 : q3 ≤ ((C - row : Nat) : Int)) (h4 : q1 < q3)
    (h : SQ P N all l G ((d, .sx n (row + q1.toNat) (q2.toNat - q1.toNat) (row + q3.toNat)) :: T) H (n + 1)) : SQ P N all (⟨some d, .slice t x (some y) (some z) (some u), ty, pos, after, none⟩ :: l) G T H n :=
  sq_step rfl hd (s_slice3 rfl hty hk0 hx hl hy hz hu h0 h1 h2 h3 h4) h
theorem q_apz {x y : Operand} {t tx e : TypeId} {ti tj : TI} {es eb : Nat} {ez : List Value} {id l1 C k ty0 : Nat} {kq kn : IntKind} {q : Int} {pl0 : Bool} {br : List (List AV)} (hd : Nat.blt d N = true) (hx : evalA T x = some (.sx id 0 l1 C)) (hy : evalA T y = some (.v (.int kq q))) (hty : tiOf P t = some ti)
    (hk : ti.k = .slice e es eb ez) (hty2 : tiOf P tx = some tj) (hk2 : tj.k = .int kn) (hl : look H id = some ⟨ty0, es, pl0, br⟩) (hq : q = (k : Int)) (hlen : l1 ≤ br.length) (h0 : 0 < k) (hroom : C < l1 + k)
    (hb : eb * (2 * (l1 + k)) ≤ 281474976710656) (h63 : l1 + k ≤ 9223372036854775807) (hes : Nat.blt 0 es = true) (hz : Nat.beq ez.length es = true) (hz1 : ez.all (·.oneCell') = true)
    (h : SQ P N all l G ((d, .sl n 0 (l1 + k)) :: T) ((n, ⟨e, es, pl0, br.take l1 ++ List.replicate k (ez.map .v)⟩) :: H) (n + 1)) : SQ P N all (⟨some d, .call { callee := .builtin .append, args := #[x, y], argTypes := #[t, tx] }, ty, pos, after, none⟩ :: l) G T H n := by
  subst hq
  exact sq_step rfl hd (s_append_zeros rfl hty hk hty2 hk2 hx hl hlen hy h0 hroom (by simpa [Nat.blt_eq] using hes) hb h63 (Nat.eq_of_beq_eq_true hz) hz1) h
/-- a slice that came in, met with nil: either way -/
theorem q_nilu {x y : Operand} {t u e : TypeId} {ti : TI} {es eb sz : Nat} {ez : List Value} {rows : List (List AV)} (hd : Nat.blt d N = true) (hx : evalA T x = some (.dsl sz rows)) (hy : evalA T y = some (.v (.slice none 0 0))) (hty : tiOf P t = some ti) (hk0 : ti.k = .slice e es eb ez)
    (h : ∀ b : Bool, (b = true → rows = []) → SQ P N all l G ((d, .v (.bool b)) :: T) H n) : SQ P N all (⟨some d, .binOp .eql t x y u, ty, pos, after, none⟩ :: l) G T H n := by
  intro Old wi K m a w Q hr ht hq
  unfold wpList
  rw [if_pos (by simp [Region.wanted])]
  obtain ⟨b, hb, hrun⟩ := nil_any (K := K) (w := w) (m := m) (S := fun i => i < n) (T := T) (N := N) false (o := ⟨some d, .binOp .eql t x y u, ty, pos, after, none⟩) rfl hty hk0 hx hy ht
  refine .inl ?_
  unfold Oper.wp
  rw [hrun]
  exact h b hb Old wi K m _ w Q hr (ht.put (d := some d) (.v _ _) hd) hq
/-- a call of the run-time's own, of two plain values -/
theorem q_ext2 {f : Operand} {g : FuncId} {xs : Array Operand} {ts : Array TypeId} {x y v : Value} (hd : Nat.blt d N = true) (hf : evalA T f = some (.fn g [])) (ha : evalL T xs.toList = some [.v x, .v y]) (hrun : ∀ w, (callFunc g #[x, y]).run P w = .ok (.value v) w)
    (h : SQ P N all l G ((d, .v v) :: T) H n) : SQ P N all (⟨some d, .call { callee := .value f, args := xs, argTypes := ts }, ty, pos, after, none⟩ :: l) G T H n := by
  refine sq_step (ro := true) rfl hd (Step.still fun Old wi K m S a w hr ht => ?_) h
  have hfv := ht.eval hf
  obtain ⟨el, ev⟩ := evals_of ht _ _ (evalL_m ha)
  generalize hfx : a.eval f = fx at hfv
  cases hfv with
  | fn _ _ _ ys hl hv =>
    have hy : ys = [] := List.length_eq_zero_iff.1 (by simpa using hl)
    subst hy
    have hxs : xs.toList.map a.eval = [x, y] := by
      match hm : xs.toList.map a.eval, el with
      | [x', y'], _ =>
        have h0 := ev 0 _ x' rfl (by rw [hm]; rfl)
        have h1 := ev 1 _ y' rfl (by rw [hm]; rfl)
        cases h0
        cases h1
        rfl
    refine ⟨v, ?_, .v _ _⟩
    simp only [execOp, resolve, hfx, Deferred.ofValue, invoke, Sem.run_bind, Sem.run_pure, Result.andThen]
    obtain ⟨xs⟩ := xs
    simp only at hxs
    simp only [List.map_toArray, hxs]
    exact hrun w
/-- two slices of two blocks of the call's own do not overlap -/
theorem q_ovl {f : Operand} {g : FuncId} {xs : Array Operand} {ts : Array TypeId} {tS tR e : TypeId} {ti : TI} {es eb id1 r1 l1 id2 r2 l2 C t1 t2 : Nat} {ez : List Value} {p1 p2 : Bool} {br1 br2 : List (List AV)} (hd : Nat.blt d N = true) (hf : evalA T f = some (.fn g []))
    (ha : evalL T xs.toList = some [.sl id1 r1 l1, .sx id2 r2 l2 C]) (hty : tiOf P tS = some ti) (hk : ti.k = .slice e es eb ez) (h1 : look H id1 = some ⟨t1, es, p1, br1⟩) (h2 : look H id2 = some ⟨t2, es, p2, br2⟩) (hne : Nat.beq id1 id2 = false) (hl1 : 0 < l1) (hb2 : 0 < br2.length) (hes : Nat.blt 0 es = true)
    (hrun : ∀ (args : Array Value) (w : World), (callFunc g args).run P w = ((Extern.SlicesOverlaps.overlaps #[tS, tS] #[tR] args).run P w).andThen fun v w' => .ok (.value v) w')
    (h : SQ P N all l G ((d, .v (.bool false)) :: T) H n) : SQ P N all (⟨some d, .call { callee := .value f, args := xs, argTypes := ts }, ty, pos, after, none⟩ :: l) G T H n := by
  obtain ⟨i, dd, z, hi, hdd, hzz, hsz, hagg, hby, hzl, htk⟩ := tiOf_spec hty
  rw [hk] at htk
  obtain ⟨ei, ezz, rfl, hei, _, hes', _, _⟩ := tk_slice htk
  refine sq_step (ro := true) rfl hd (Step.still fun Old wi K m S a w hr ht => ?_) h
  have hfv := ht.eval hf
  obtain ⟨el, ev⟩ := evals_of ht _ _ (evalL_m ha)
  generalize hfx : a.eval f = fx at hfv
  cases hfv with
  | fn _ _ _ ys hl hv =>
    have hy : ys = [] := List.length_eq_zero_iff.1 (by simpa using hl)
    subst hy
    have hn12 : id1 ≠ id2 := fun e => by subst e; rw [Nat.beq_refl] at hne; cases hne
    match hm : xs.toList.map a.eval, el with
    | [x', y'], _ =>
      have h0 := ev 0 _ x' rfl (by rw [hm]; rfl)
      have h1' := ev 1 _ y' rfl (by rw [hm]; rfl)
      obtain ⟨c1, rfl, hp1, _⟩ := h0.slAt (.inl ⟨rfl, hl1⟩)
      obtain ⟨c2, rfl, hp2, _⟩ := h1'.slAt (.inr ⟨C, rfl⟩)
      obtain ⟨cur1, g1, _, _⟩ := ((hr.own id1 _ h1).br hp1).ex
      have hbr2 := (hr.own id2 _ h2).br hp2
      obtain ⟨cur2, g2, g3, _⟩ := hbr2.ex
      have hcap := hbr2.cap
      simp only at hcap g3
      have hk2 : cur2.size ≠ 0 := by
        rw [g3]
        have : 0 < (m id2).cap := by omega
        have he : 0 < es := by simpa [Nat.blt_eq] using hes
        exact Nat.ne_of_gt (Nat.mul_pos this he)
      have hapart := Lib.run_overlaps_apart (P := P) w tS tR e hdd es (fun w' => by have := run_sizeOf (P := P) w' hei; simpa [Program.cellsOf, hei, hes'] using this) ⟨(m id1).blk, r1 * (m id1).size, none⟩ ⟨(m id2).blk, r2 * (m id2).size, none⟩ l1 c1 l2 c2
        (hr.inj id1 id2 _ _ h1 h2 hn12 hp1 hp2) t1 t2 cur1.size cur2.size (by simp [World.shape?, g1]) (by simp [World.shape?, g2]) hk2 (by simp [World.frozen?, g1]) (by simp [World.frozen?, g1])
      refine ⟨.bool false, ?_, .v _ _⟩
      simp only [execOp, resolve, hfx, Deferred.ofValue, invoke, Sem.run_bind, Sem.run_pure, Result.andThen]
      obtain ⟨xs⟩ := xs
      simp only at hm
      simp only [List.map_toArray, hm]
      have hh := hrun #[.slice (some ⟨(m id1).blk, r1 * (m id1).size, none⟩) l1 c1, .slice (some ⟨(m id2).blk, r2 * (m id2).size, none⟩) l2 c2] w
      rw [hapart] at hh
      exact hh
end
end Go.Proofs.Ytmnklmaefoidbaa.Aw
