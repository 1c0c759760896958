/-
  Operations on slices: growing.
-/
import Derived.Test.YtglfcaioapdiaaaAwOps6
import Derived.Test.YtglfcaioapdiaaaAwOps5
import Derived.Deep.AppendSrc
import Derived.Laws.AppendOwn
import Derived.Great.BuildSlice
namespace Go.Proofs.Ytglfcaioapdiaaa.Aw
open Go Go.RowKit
set_option linter.unusedSimpArgs false
set_option linter.unusedVariables false

section
variable {Old : Nat → Prop} {wi : WI} {K : Nat → Prop} {m : Nat → Loc} {S : Nat → Prop} {H : Hp} {w : World}
theorem OB.cong {i j : Nat} {b : Blk} (h : OB K w m S i b) (e : m j = m i) : OB K w m S j b := by
  rcases h with ⟨p1, p2⟩ | ⟨p1, hb⟩
  · exact .inl ⟨by rw [e]; exact p1, p2⟩
  · exact .inr ⟨by rw [e]; exact p1, by rw [e]; exact hb.nk, by rw [e]; exact hb.sz, by rw [e]; exact hb.cap, by rw [e]; exact hb.capm, hb.plv, by rw [e]; exact hb.ex⟩
theorem look_del {H : Hp} {id i : Nat} {b : Blk} (h : look (del H id) i = some b) : i ≠ id ∧ look H i = some b := by
  by_cases he : i = id
  · subst he; rw [look_del_same] at h; cases h
  · rw [look_del_ne _ he] at h; exact ⟨he, h⟩
/-- a block gets a new name -/
theorem Rel.rename (hr : Rel Old wi K m S H w) {id n : Nat} {b : Blk} (hl : look H id = some b) (hn : ¬ S n) : Rel Old wi K (updL m n (m id)) (addS S n (n + 1)) ((n, b) :: del H id) w := by
  have hm : ∀ i, S i → updL m n (m id) i = m i := fun i hi => updL_ne _ _ (fun e => hn (e ▸ hi))
  have r1 := hr.monoS (S' := addS S n (n + 1)) (m' := updL m n (m id)) (fun i hi => .inl hi) hm
  have e : updL m n (m id) n = updL m n (m id) id := by rw [updL_same, hm id (hr.inS id b hl)]
  have part : ∀ i bi, look ((n, b) :: del H id) i = some bi → (i = n ∧ bi = b) ∨ (i ≠ n ∧ i ≠ id ∧ look H i = some bi) := fun i bi h => by
    rw [look_cons] at h
    split at h
    · rename_i he; simp only [Option.some.injEq] at h; exact .inl ⟨he.symm, h.symm⟩
    · rename_i he; obtain ⟨h1, h2⟩ := look_del h; exact .inr ⟨fun e => he e.symm, h1, h2⟩
  refine { r1 with inS := ?_, oown := ?_, om := ?_, own := ?_, inj := ?_ }
  · intro i bi h
    rcases part i bi h with ⟨rfl, rfl⟩ | ⟨_, _, h2⟩
    · rw [e]; exact r1.oown id bi hl
    · exact r1.oown i bi h2
  · intro i bi h
    rcases part i bi h with ⟨rfl, rfl⟩ | ⟨_, _, h2⟩
    · rw [e]; exact r1.om id bi hl
    · exact r1.om i bi h2
  · intro i bi h
    rcases part i bi h with ⟨rfl, rfl⟩ | ⟨_, _, h2⟩
    · exact .inr ⟨Nat.le_refl _, Nat.lt_succ_self _⟩
    · exact r1.inS i bi h2
  · intro i bi h
    rcases part i bi h with ⟨rfl, rfl⟩ | ⟨_, _, h2⟩
    · exact (r1.own id bi hl).cong e
    · exact r1.own i bi h2
  · intro i j bi bj h1 h2 hne
    rcases part i bi h1 with ⟨rfl, rfl⟩ | ⟨hi, hi', hhi⟩ <;> rcases part j bj h2 with ⟨rfl, rfl⟩ | ⟨hj, hj', hhj⟩
    · exact absurd rfl hne
    · rw [e]; exact r1.inj id j bi bj hl hhj (fun e => hj' e.symm)
    · rw [e]; exact r1.inj i id bi bj hhi hl hi'
    · exact r1.inj i j bi bj hhi hhj hne
/-- a block that is not there yet -/
theorem Rel.phantom (hr : Rel Old wi K m S H w) {n : Nat} (hn : ¬ S n) (ty sz : Nat) (pl : Bool) : Rel Old wi K (updL m n ⟨0, 0, 0, true⟩) (addS S n (n + 1)) ((n, ⟨ty, sz, pl, []⟩) :: H) w := by
  have hm : ∀ i, S i → updL m n ⟨0, 0, 0, true⟩ i = m i := fun i hi => updL_ne _ _ (fun e => hn (e ▸ hi))
  have r1 := hr.monoS (S' := addS S n (n + 1)) (m' := updL m n ⟨0, 0, 0, true⟩) (fun i hi => .inl hi) hm
  have hp : (updL m n ⟨0, 0, 0, true⟩ n).ph = true := by rw [updL_same]
  have part : ∀ i bi, look ((n, (⟨ty, sz, pl, []⟩ : Blk)) :: H) i = some bi → (i = n ∧ bi = ⟨ty, sz, pl, []⟩) ∨ (i ≠ n ∧ look H i = some bi) := fun i bi h => by
    rw [look_cons] at h
    split at h
    · rename_i he; simp only [Option.some.injEq] at h; exact .inl ⟨he.symm, h.symm⟩
    · rename_i he; exact .inr ⟨fun e => he e.symm, h⟩
  refine { r1 with inS := ?_, oown := ?_, om := ?_, own := ?_, inj := ?_ }
  · intro i bi h
    rcases part i bi h with ⟨rfl, rfl⟩ | ⟨_, h2⟩
    · intro h; rw [hp] at h; cases h
    · exact r1.oown i bi h2
  · intro i bi h
    rcases part i bi h with ⟨rfl, rfl⟩ | ⟨_, h2⟩
    · intro _ h; rw [updL_same] at h; cases h
    · exact r1.om i bi h2
  · intro i bi h
    rcases part i bi h with ⟨rfl, rfl⟩ | ⟨_, h2⟩
    · exact .inr ⟨Nat.le_refl _, Nat.lt_succ_self _⟩
    · exact r1.inS i bi h2
  · intro i bi h
    rcases part i bi h with ⟨rfl, rfl⟩ | ⟨_, h2⟩
    · exact .inl ⟨hp, rfl⟩
    · exact r1.own i bi h2
  · intro i j bi bj h1 h2 hne
    rcases part i bi h1 with ⟨rfl, rfl⟩ | ⟨hi, hhi⟩ <;> rcases part j bj h2 with ⟨rfl, rfl⟩ | ⟨hj, hhj⟩
    · exact absurd rfl hne
    · intro h; rw [hp] at h; cases h
    · intro _ h; rw [hp] at h; cases h
    · exact r1.inj i j bi bj hhi hhj hne
end

/-- what the second argument of an append yields -/
def SrcA (P : Program) (H : Hp) (size : Nat) (tx : TypeId) (av : AV) (rows : List (List AV)) : Prop :=
  ∀ (Old : Nat → Prop) (wi : WI) (K : Nat → Prop) (m : Nat → Loc) (S : Nat → Prop) (w : World) (x : Value), Rel Old wi K m S H w → VR K w m S av x →
    ∃ news : List Value, Src P size tx x rows.length news w ∧ ∀ (r : Nat) (row : List AV), rows[r]? = some row → row.length = size ∧ ∀ (j : Nat) (cv : AV), row[j]? = some cv → ∃ y, news[r * size + j]? = some y ∧ VR K w m S cv y

theorem divmod {r j s : Nat} (hj : j < s) : (r * s + j) / s = r ∧ (r * s + j) % s = j := by
  have hs : 0 < s := by omega
  rw [Nat.mul_comm]
  exact ⟨by rw [Nat.mul_add_div hs, Nat.div_eq_of_lt hj, Nat.add_zero], by rw [Nat.mul_add_mod, Nat.mod_eq_of_lt hj]⟩
theorem flat_lt {r j s n : Nat} (hr : r < n) (hj : j < s) : r * s + j < n * s := by
  have : (r + 1) * s ≤ n * s := Nat.mul_le_mul_right _ hr
  rw [Nat.add_mul] at this; omega

section
variable {P : Program} {H : Hp} {size : Nat} {tx : TypeId} {rows : List (List AV)}
theorem src_cells {w : World} {e' : TypeId} (hk : P.underlying tx = some (.slice e')) (blk off n c : Nat) (f : Nat → Nat → Value) (hn : n = rows.length) (hl : ∀ (r : Nat) (row : List AV), rows[r]? = some row → row.length = size)
    (h : ∀ (r : Nat) (row : List AV) (j : Nat) (cv : AV), rows[r]? = some row → row[j]? = some cv → w.cell? ⟨blk, off + r * size + j, none⟩ = some (f r j) ∧ (f r j).oneCell' = true) :
    ∃ news : List Value, Src P size tx (.slice (some ⟨blk, off, none⟩) n c) rows.length news w ∧ ∀ (r : Nat) (row : List AV) (j : Nat) (cv : AV), rows[r]? = some row → row[j]? = some cv → news[r * size + j]? = some (f r j) := by
  subst hn
  let news := (List.range (rows.length * size)).map fun k => f (k / size) (k % size)
  have key : ∀ k, k < rows.length * size → w.cell? ⟨blk, off + k, none⟩ = some (f (k / size) (k % size)) ∧ (f (k / size) (k % size)).oneCell' = true := fun k hk => by
    have hs : 0 < size := by rcases Nat.eq_zero_or_pos size with e | e; · subst e; simp at hk
                             · exact e
    have hr : k / size < rows.length := by rw [Nat.div_lt_iff_lt_mul hs]; exact hk
    have hj := Nat.mod_lt k hs
    have hrow := List.getElem?_eq_getElem hr
    have hlen := hl _ _ hrow
    have hcv : (rows[k / size])[k % size]? = some ((rows[k / size])[k % size]'(by omega)) := List.getElem?_eq_getElem (by omega)
    have := h _ _ _ _ hrow hcv
    rw [Nat.add_assoc, show k / size * size + k % size = k by rw [Nat.mul_comm]; exact Nat.div_add_mod k size] at this
    exact this
  refine ⟨news, Src.ofSlice w hk ⟨blk, off, none⟩ rows.length c news (by simp [news]) (fun j u hj => ?_) (fun u hu => ?_), fun r row j cv hr hj => ?_⟩
  · simp only [news, List.getElem?_map] at hj
    cases hj' : (List.range (rows.length * size))[j]? with
    | none => simp [hj'] at hj
    | some k =>
      simp only [hj', Option.map_some, Option.some.injEq] at hj
      subst hj
      obtain ⟨hlt, hk'⟩ := List.getElem?_eq_some_iff.1 hj'
      simp at hk' hlt
      subst hk'
      rw [Go.WideShapes.add_plain]
      exact (key _ hlt).1
  · obtain ⟨k, hk', rfl⟩ := List.mem_map.1 hu
    exact (key k (List.mem_range.1 hk')).2
  · have hrl : r < rows.length := (List.getElem?_eq_some_iff.1 hr).1
    have hjl : j < size := by rw [← hl r row hr]; exact (List.getElem?_eq_some_iff.1 hj).1
    obtain ⟨d1, d2⟩ := divmod (r := r) hjl
    simp only [news, List.getElem?_map, List.getElem?_range (flat_lt hrl hjl), Option.map_some, d1, d2]
theorem src_none {w : World} {e' : TypeId} (hk : P.underlying tx = some (.slice e')) (a : Option Addr) (c : Nat) : Src P size tx (.slice a 0 c) 0 [] w := by
  cases a with
  | none => exact Src.ofNil w hk c
  | some a => exact Src.ofSlice w hk a 0 c [] (by simp) (by simp) (by simp)
theorem src_dsl {ti : TI} {e : TypeId} {es eb : Nat} {ez : List Value} (hty : tiOf P tx = some ti) (hk : ti.k = .slice e es eb ez) : SrcA P H size tx (.dsl size rows) rows := by
  intro Old wi K m S w x hr hv
  obtain ⟨i, d, z, hi, hd, hzz, hsz, hagg, hby, hzl, htk⟩ := tiOf_spec hty
  rw [hk] at htk
  obtain ⟨ei, ezz, rfl, hei, _, hes, _, _⟩ := tk_slice htk
  cases hv with
  | dsl0 _ _ a c => exact ⟨[], src_none hd a c, by simp⟩
  | dsl _ _ _ n b o c xs hn hc hK hl hx hv =>
    obtain ⟨news, h1, h2⟩ := src_cells hd b o n c xs hn hl hx
    exact ⟨news, by rw [hn] at h1 ⊢; exact h1, fun r row hr => ⟨hl r row hr, fun j cv hj => ⟨_, h2 r row j cv hr hj, (hv r row j cv hr hj).mono (fun _ h => h) (fun _ _ => rfl) (fun _ h => h.elim) (fun _ h => h.elim)⟩⟩⟩
theorem src_sl {ti : TI} {e : TypeId} {es eb : Nat} {ez : List Value} {id r0 len : Nat} {b : Blk} (hty : tiOf P tx = some ti) (hk : ti.k = .slice e es eb ez) (hl : look H id = some b) (hb : b.size = size) (hn : r0 + len ≤ b.rows.length) (he : (b.rows.drop r0).take len = rows) :
    SrcA P H size tx (.sl id r0 len) rows := by
  intro Old wi K m S w x hr hv
  obtain ⟨i, d, z, hi, hd, hzz, hsz, hagg, hby, hzl, htk⟩ := tiOf_spec hty
  rw [hk] at htk
  obtain ⟨ei, ezz, rfl, hei, _, hes, _, _⟩ := tk_slice htk
  subst he
  have hlen : ((b.rows.drop r0).take len).length = len := by simp; omega
  cases hv with
  | sl0 _ _ _ ad hS => exact ⟨[], by rw [hlen]; exact src_none hd ad 0, by simp⟩
  | sl _ _ _ _ o c hS hph ho hc =>
    have hbr := (hr.own id b hl).br hph
    obtain ⟨cur, h1, h2, h3⟩ := hbr.ex
    let f : Nat → Nat → Value := fun r j => (w.cell? ⟨(m id).blk, o + r * b.size + j, none⟩).getD undef
    have cell : ∀ (q : Nat) (rw_ : List AV), ((b.rows.drop r0).take len)[q]? = some rw_ → rw_.length = b.size ∧ ∀ (j : Nat) (cv : AV), rw_[j]? = some cv → w.cell? ⟨(m id).blk, o + q * b.size + j, none⟩ = some (f q j) ∧ (f q j).oneCell' = true ∧ VR K w m (fun i => S i ∧ b.pl = false) cv (f q j) := by
      intro q rw_ hq
      rw [List.getElem?_take] at hq
      split at hq
      · rw [List.getElem?_drop] at hq
        refine ⟨(h3 _ _ hq).1, fun j cv hj => ?_⟩
        obtain ⟨y, hy, hone, hvy⟩ := (h3 _ _ hq).2 j cv hj
        have hy' : w.cell? ⟨(m id).blk, o + q * b.size + j, none⟩ = some y := by
          rw [cell_of_row w _ _ _ _ _ h1, ho, hbr.sz, ← Nat.add_mul]; exact hy
        simp only [f, hy', Option.getD_some]
        exact ⟨trivial, hone, hvy⟩
      · cases hq
    subst hb
    obtain ⟨news, g1, g2⟩ := src_cells (rows := (b.rows.drop r0).take len) hd (m id).blk o len c f hlen.symm (fun r row hr => (cell r row hr).1) (fun r row j cv hr hj => ⟨((cell r row hr).2 j cv hj).1, ((cell r row hr).2 j cv hj).2.1⟩)
    exact ⟨news, g1, fun r row hr => ⟨(cell r row hr).1, fun j cv hj => ⟨_, g2 r row j cv hr hj, ((cell r row hr).2 j cv hj).2.2.mono (fun _ h => h) (fun _ _ => rfl) (fun _ h => h.1) (fun _ _ => rfl)⟩⟩⟩
theorem src_nil {ti : TI} {e : TypeId} {es eb : Nat} {ez : List Value} {a : Option Addr} {c : Nat} (hty : tiOf P tx = some ti) (hk : ti.k = .slice e es eb ez) : SrcA P H size tx (.v (.slice a 0 c)) [] := by
  intro Old wi K m S w x hr hv
  obtain ⟨i, d, z, hi, hd, hzz, hsz, hagg, hby, hzl, htk⟩ := tiOf_spec hty
  rw [hk] at htk
  obtain ⟨ei, ezz, rfl, hei, _, hes, _, _⟩ := tk_slice htk
  cases hv
  exact ⟨[], src_none hd a c, by simp⟩
def byteRows (s : ByteArray) : List (List AV) := s.data.toList.map fun b => [.v (.int .u8 b.toNat)]
theorem src_str {ti : TI} {s : ByteArray} (hty : tiOf P tx = some ti) (hk : ti.k = .str) : SrcA P H 1 tx (.v (.string s)) (byteRows s) := by
  intro Old wi K m S w x hr hv
  obtain ⟨i, d, z, hi, hd, hzz, hsz, hagg, hby, hzl, htk⟩ := tiOf_spec hty
  rw [hk] at htk
  have := tk_str htk
  subst this
  cases hv
  have hlen : (byteRows s).length = s.size := by simp [byteRows]
  refine ⟨byteCells s, by rw [hlen]; exact Src.ofString w hd s, fun r row hr => ?_⟩
  simp only [byteRows, List.getElem?_map] at hr
  cases hrr : s.data.toList[r]? with
  | none => simp [hrr] at hr
  | some u =>
    simp only [hrr, Option.map_some, Option.some.injEq] at hr
    subst hr
    refine ⟨rfl, fun j cv hj => ?_⟩
    cases j with
    | succ j => simp at hj
    | zero =>
      simp only [List.getElem?_cons_zero, Option.some.injEq] at hj
      subst hj
      exact ⟨.int .u8 u.toNat, by simp only [byteCells, Nat.mul_one, Nat.add_zero, List.getElem?_map, hrr, Option.map_some], .v _ _⟩
end

section
variable {P : Program} {H : Hp} {N n : Nat} {T : Tp} {o : Oper}

theorem run_append_room_row {w : World} {t tx ty e : TypeId} {i : TypeInfo} (ht : P.underlying t = some (.slice e)) (hi : P.info? e = some i) (b off sLen sCap : Nat) (x : Value) (n : Nat) (news : List Value) (hs : Src P i.size tx x n news w)
    (hroom : sLen + n ≤ sCap) (bt : TypeId) (cur : Array Value) (hg : w.heap[b]? = some (.cells cur bt (0, 0))) (hfit : off + sLen * i.size + news.length ≤ cur.size) :
    (Builtin.append_ #[t, tx] ty #[.slice (some ⟨b, off, none⟩) sLen sCap, x]).run P w = .ok (.slice (some ⟨b, off, none⟩) (sLen + n) sCap) (w.setRow b (cur.toList.take (off + sLen * i.size) ++ news ++ cur.toList.drop (off + sLen * i.size + news.length)).toArray) := by
  have hst := run_storeCells_at P b (off + sLen * i.size) bt news 0 cur w hg (by simpa using hfit) hs.one
  simp only [Nat.add_zero] at hst
  rcases hs.kind with ⟨e', hk⟩ | hk <;> simp [Builtin.append_, run_underlying ht, run_underlying hk, sizeOf, typeInfo, hi, hs.len, hroom, hs.cells, Addr.add_lit, hst]

/-- rows behind rows, as cells -/
theorem cat_rows {A B : List (List AV)} {K : Nat → Prop} {w : World} {m : Nat → Loc} {S S' : Nat → Prop} {sz : Nat} {c : Nat → Option Value} (hA : ∀ (r : Nat) (row : List AV), A[r]? = some row → row.length = sz ∧ ∀ (j : Nat) (cv : AV), row[j]? = some cv → ∃ x, c (r * sz + j) = some x ∧ x.oneCell' = true ∧ VR K w m S cv x)
    (hB : ∀ (r : Nat) (row : List AV), B[r]? = some row → row.length = sz ∧ ∀ (j : Nat) (cv : AV), row[j]? = some cv → ∃ x, c (A.length * sz + (r * sz + j)) = some x ∧ x.oneCell' = true ∧ VR K w m S cv x) :
    ∀ (r : Nat) (row : List AV), (A ++ B)[r]? = some row → row.length = sz ∧ ∀ (j : Nat) (cv : AV), row[j]? = some cv → ∃ x, c (r * sz + j) = some x ∧ x.oneCell' = true ∧ VR K w m S cv x := by
  intro r row hr
  by_cases h : r < A.length
  · rw [List.getElem?_append_left h] at hr
    exact hA r row hr
  · rw [List.getElem?_append_right (by omega)] at hr
    obtain ⟨h1, h2⟩ := hB _ row hr
    refine ⟨h1, fun j cv hj => ?_⟩
    have := h2 j cv hj
    rw [← Nat.add_assoc, ← Nat.add_mul, show A.length + (r - A.length) = r by omega] at this
    exact this
theorem all_rows {rows : List (List AV)} (h : (rows.all fun r => r.all isV) = true) {r : Nat} {row : List AV} (hr : rows[r]? = some row) {j : Nat} {cv : AV} (hj : row[j]? = some cv) : isV cv = true :=
  List.all_eq_true.1 (List.all_eq_true.1 h row (List.mem_of_getElem? hr)) cv (List.mem_of_getElem? hj)
theorem VR.plain {K : Nat → Prop} {w : World} {m : Nat → Loc} {S S' : Nat → Prop} {cv : AV} {x : Value} (h : VR K w m S cv x) (hv : isV cv = true) : VR K w m S' cv x := by
  cases cv <;> simp only [isV] at hv <;> try (cases hv)
  cases h; exact .v _ _
theorem VR.forPl {K : Nat → Prop} {w : World} {m : Nat → Loc} {S : Nat → Prop} {cv : AV} {x : Value} {pl : Bool} (h : VR K w m S cv x) (hv : pl = true → isV cv = true) : VR K w m (fun i => S i ∧ pl = false) cv x := by
  cases pl with
  | true => exact h.plain (hv rfl)
  | false => exact h.mono (fun _ h => h) (fun _ _ => rfl) (fun _ h => ⟨h, rfl⟩) (fun _ _ => rfl)

theorem zeroCells_size (z : Array Value) (n : Nat) : (Builtin.zeroCells z n).size = n * z.size := by simp [Builtin.zeroCells]

/-- the row that is made where there is no room -/
theorem grown_row {w : World} {K : Nat → Prop} {m : Nat → Loc} {S : Nat → Prop} {es : Nat} {A B : List (List AV)} {olds news : List Value} {z : Array Value} {extra : Nat} {pl : Bool} (hol : olds.length = A.length * es)
    (hA : ∀ (r : Nat) (row : List AV), A[r]? = some row → row.length = es ∧ ∀ (j : Nat) (cv : AV), row[j]? = some cv → ∃ y, olds[r * es + j]? = some y ∧ y.oneCell' = true ∧ VR K w m S cv y)
    (hB : ∀ (r : Nat) (row : List AV), B[r]? = some row → row.length = es ∧ ∀ (j : Nat) (cv : AV), row[j]? = some cv → ∃ y, news[r * es + j]? = some y ∧ VR K w m S cv y) (hone : ∀ u ∈ news, u.oneCell' = true)
    (hpl : pl = true → ((A ++ B).all fun r => r.all isV) = true) : ∀ (r : Nat) (row : List AV), (A ++ B)[r]? = some row → row.length = es ∧ ∀ (j : Nat) (cv : AV), row[j]? = some cv →
      ∃ x, ((olds ++ news).toArray ++ Builtin.zeroCells z extra)[r * es + j]? = some x ∧ x.oneCell' = true ∧ VR K w m (fun i => S i ∧ pl = false) cv x := by
  have key := cat_rows (A := A) (B := B) (K := K) (w := w) (m := m) (S := S) (S' := S) (sz := es) (c := fun k => (olds ++ news)[k]?) (fun r row hr => ⟨(hA r row hr).1, fun j cv hj => ?_⟩) (fun r row hr => ⟨(hB r row hr).1, fun j cv hj => ?_⟩)
  · intro r row hr
    obtain ⟨k1, k2⟩ := key r row hr
    refine ⟨k1, fun j cv hj => ?_⟩
    obtain ⟨x, h1, h2, h3⟩ := k2 j cv hj
    refine ⟨x, ?_, h2, h3.forPl fun e => all_rows (hpl e) hr hj⟩
    have hlt := (List.getElem?_eq_some_iff.1 h1).1
    rw [Array.getElem?_append_left (by simpa using hlt)]
    simpa using h1
  · obtain ⟨y, h1, h2, h3⟩ := (hA r row hr).2 j cv hj
    refine ⟨y, ?_, h2, h3⟩
    show (olds ++ news)[r * es + j]? = some y
    rw [List.getElem?_append_left (List.getElem?_eq_some_iff.1 h1).1]
    exact h1
  · obtain ⟨y, h1, h2⟩ := (hB r row hr).2 j cv hj
    refine ⟨y, ?_, hone y (List.mem_of_getElem? h1), h2⟩
    show (olds ++ news)[A.length * es + (r * es + j)]? = some y
    rw [← hol, List.getElem?_append_right (by omega), Nat.add_sub_cancel_left]
    exact h1

theorem drew_drw (w : World) : w.drew = drw w (w.drawn + 1) := rfl
theorem run_app {a : Act} {x y : Operand} {t tx : TypeId} {w w' : World} {xv v : Value} (ho : o.op = .call { callee := .builtin .append, args := #[x, y], argTypes := #[t, tx] }) (hx : a.eval x = xv)
    (h : (Builtin.append_ #[t, tx] o.type #[xv, a.eval y]).run P w = .ok v w') : (execOp a.eval o).run P w = .ok (.value v) w' := by
  subst hx
  simp [execOp, ho, resolve, invoke, builtin, h, Result.andThen]

theorem run_app0 {w : World} {t tx ty e : TypeId} {i : TypeInfo} (ad : Option Addr) (x : Value) (news : List Value) (ht : P.underlying t = some (.slice e)) (hi : P.info? e = some i) (hs : Src P i.size tx x 0 news w) :
    (Builtin.append_ #[t, tx] ty #[.slice ad 0 0, x]).run P w = .ok (.slice ad 0 0) w := by
  have hn : news = [] := List.length_eq_zero_iff.1 (by have := hs.newsLen; simpa using this)
  subst hn
  have hc := hs.cells
  rcases hs.kind with ⟨e', hk⟩ | hk <;> cases ad <;> simp [Builtin.append_, run_underlying ht, run_underlying hk, sizeOf, typeInfo, hi, hs.len, hc, storeCells]
/-- appending onto nil -/
theorem s_append_nil {x y : Operand} {t tx e : TypeId} {ti : TI} {es eb : Nat} {ez : List Value} {av : AV} {rows : List (List AV)} (pl : Bool) (ho : o.op = .call { callee := .builtin .append, args := #[x, y], argTypes := #[t, tx] }) (hty : tiOf P t = some ti)
    (hk : ti.k = .slice e es eb ez) (hx : evalA T x = some (.v (.slice none 0 0))) (hy : evalA T y = some av) (hs : SrcA P H es tx av rows) (hb : eb * (2 * rows.length) ≤ 281474976710656) (h63 : rows.length ≤ 9223372036854775807)
    (hz : ez.length = es) (hpl : pl = true → (rows.all fun r => r.all isV) = true) : Step P o N T H n (.sl n 0 rows.length) ((n, ⟨e, es, pl, rows⟩) :: H) (n + 1) true := by
  obtain ⟨i, d, z, hi, hd, hzz, hsz, hagg, hby, hzl, htk⟩ := tiOf_spec hty
  rw [hk] at htk
  obtain ⟨ei, ezz, rfl, hei, hezz, hes, heb, hezl⟩ := tk_slice htk
  have hzs : ezz.cells.size = es := by rw [← hz, ← hezl]; simp
  refine ⟨Nat.le_succ _, fun Old wi K m S a w hS hr ht next Q hnx => ?_⟩
  have hns : ¬ S n := hS n (Nat.le_refl _) (Nat.lt_succ_self _)
  have hvx := ht.eval hx
  generalize hxv : a.eval x = xv at hvx
  cases hvx
  obtain ⟨news, hsrc, hnews⟩ := hs _ _ _ _ _ _ _ hr (ht.eval hy)
  subst hes
  unfold Oper.wp
  by_cases h0 : rows.length = 0
  · have hrows : rows = [] := List.length_eq_zero_iff.1 h0
    subst hrows
    have hrun := run_app (P := P) ho hxv (w := w) (w' := w) (v := .slice none 0 0) (run_app0 none _ news hd hei hsrc)
    rw [hrun]
    refine hnx _ _ _ K ⟨fun i hi => updL_ne _ _ (fun e => hi (by omega)), GK.refl _ _, hr.phantom hns e ei.size pl, .sl0 _ n 0 _ (.inr ⟨Nat.le_refl _, Nat.lt_succ_self _⟩), fun _ _ => rfl, fun _ => ⟨Below.refl _ _, fun i h1 h2 h3 => ?_, fun _ h _ => h⟩⟩
    have : i = n := by omega
    subst this
    rw [updL_same] at h3
    cases h3
  · have hrun := run_app (P := P) ho hxv (run_append_grow_src (P := P) w t tx o.type e ei ezz hd hei hezz none 0 0 [] (by simp [run_firstCells_none]) _ rows.length news hsrc (by omega) (by omega)
      (by
        have := nextslicecap_le (need := 0 + rows.length) (old := 0) (by omega)
        have h2 : Builtin.nextslicecap (0 + rows.length) 0 * ei.bytes ≤ 2 * (0 + rows.length) * ei.bytes := Nat.mul_le_mul_right _ this
        rw [heb] at h2 ⊢
        rw [Nat.zero_add] at h2 ⊢
        rw [Nat.mul_comm (2 * rows.length)] at h2
        omega))
    rw [hrun]
    simp only [Nat.zero_add]
    have hge := grownCap_ge w rows.length 0 e
    have hcm : grownCap w rows.length 0 e ≤ maxLen := grownCap_le_maxLen w _ _ e (by simp only [maxLen]; omega)
    generalize grownCap w rows.length 0 e = cap at hge hcm
    have hg := grown_row (w := drw w (w.drawn + 1)) (K := K) (m := m) (S := S) (es := ei.size) (A := []) (B := rows) (olds := []) (news := news) (z := ezz.cells) (extra := cap - rows.length) (pl := pl) (by simp) (by simp)
      (fun r row hr => ⟨(hnews r row hr).1, fun j cv hj => by obtain ⟨y, h1, h2⟩ := (hnews r row hr).2 j cv hj; exact ⟨y, h1, h2.mono (fun _ h => h) (fun _ _ => rfl) (fun _ h => h) (fun _ _ => rfl)⟩⟩) hsrc.one hpl
    have hrel := (hr.drw (w.drawn + 1)).new hns ⟨e, ei.size, pl, rows⟩ cap ((([] : List Value) ++ news).toArray ++ Builtin.zeroCells ezz.cells (cap - rows.length)) hge hcm (fun hp r row hr j cv hj => all_rows (hpl hp) hr hj)
      (by simp only [List.nil_append, Array.size_append, List.size_toArray, zeroCells_size, hsrc.newsLen, hzs]; rw [← Nat.add_mul]; congr 1; omega) hg
    refine hnx _ _ _ K ⟨fun i hi => updL_ne _ _ (fun e => hi (by omega)), GK.refl _ _, hrel, ?_, fun k hk => Below.heap_alloc _ _ _ (hr.kb k hk), fun _ => ⟨(below_drw (Below.refl w.heap.size w) (w.drawn + 1)).alloc (Nat.le_refl w.heap.size) _, fun i h1 h2 _ => ?_, fun _ h _ => h⟩⟩
    · have hbk : (updL m n ⟨(drw w (w.drawn + 1)).heap.size, cap, ei.size, false⟩ n).blk = w.heap.size := by rw [updL_same]; rfl
      show VR K _ _ _ _ (.slice (some ⟨w.heap.size, 0, none⟩) rows.length cap)
      rw [← hbk]
      exact .sl _ n 0 _ 0 _ (.inr ⟨Nat.le_refl _, Nat.lt_succ_self _⟩) (by rw [updL_same]) (by simp) (by rw [updL_same]; simp)
    · have : i = n := by omega
      subst this
      rw [updL_same]
      exact Nat.le_refl _

/-- appending onto a slice of the call's own, which is used up -/
theorem s_append_own {x y : Operand} {t tx e : TypeId} {ti : TI} {es eb : Nat} {ez : List Value} {id len : Nat} {b : Blk} {av : AV} {rows : List (List AV)} (pl : Bool) (ho : o.op = .call { callee := .builtin .append, args := #[x, y], argTypes := #[t, tx] }) (hty : tiOf P t = some ti)
    (hk : ti.k = .slice e es eb ez) (hx : evalA T x = some (.sl id 0 len)) (hl : look H id = some b) (hbs : b.size = es) (hbt : b.ty = e) (hlen : len ≤ b.rows.length) (hy : evalA T y = some av) (hs : SrcA P H es tx av rows)
    (hb : eb * (2 * (len + rows.length)) ≤ 281474976710656) (h63 : len + rows.length ≤ 9223372036854775807) (hz : ez.length = es) (hpl : pl = true → b.pl = true ∧ (rows.all fun r => r.all isV) = true) :
    Step P o N T H n (.sl n 0 (len + rows.length)) ((n, ⟨e, es, pl, b.rows.take len ++ rows⟩) :: del H id) (n + 1) false := by
  obtain ⟨i, d, z, hi, hd, hzz, hsz, hagg, hby, hzl, htk⟩ := tiOf_spec hty
  rw [hk] at htk
  obtain ⟨ei, ezz, rfl, hei, hezz, hes, heb, hezl⟩ := tk_slice htk
  have hzs : ezz.cells.size = es := by rw [← hz, ← hezl]; simp
  refine ⟨Nat.le_succ _, fun Old wi K m S a w hS hr ht next Q hnx => ?_⟩
  have hns : ¬ S n := hS n (Nat.le_refl _) (Nat.lt_succ_self _)
  have hvx := ht.eval hx
  obtain ⟨news, hsrc, hnews⟩ := hs _ _ _ _ _ _ _ hr (ht.eval hy)
  generalize hxv : a.eval x = xv at hvx
  subst hes
  have hlA : (b.rows.take len).length = len := by rw [List.length_take]; omega
  have hplA : pl = true → ((b.rows.take len ++ rows).all fun r => r.all isV) = true := fun hp => by
    obtain ⟨h1, h2⟩ := hpl hp
    rw [List.all_append, h2, Bool.and_true, List.all_eq_true]
    intro r hr'
    rw [List.all_eq_true]
    intro cv hcv
    obtain ⟨j, hj⟩ := List.mem_iff_getElem?.1 (List.mem_of_mem_take hr')
    obtain ⟨q, hq⟩ := List.mem_iff_getElem?.1 hcv
    rcases hr.own id b hl with ⟨_, h3⟩ | ⟨_, hbr⟩
    · rw [h3] at hj; simp at hj
    · exact hbr.plv h1 j r hj q cv hq
  have hnewsM : ∀ (r : Nat) (row : List AV), rows[r]? = some row → row.length = ei.size ∧ ∀ (j : Nat) (cv : AV), row[j]? = some cv → ∃ y, news[r * ei.size + j]? = some y ∧ VR K (drw w (w.drawn + 1)) m S cv y :=
    fun r row hr => ⟨(hnews r row hr).1, fun j cv hj => by obtain ⟨y, h1, h2⟩ := (hnews r row hr).2 j cv hj; exact ⟨y, h1, h2.mono (fun _ h => h) (fun _ _ => rfl) (fun _ h => h) (fun _ _ => rfl)⟩⟩
  have hfit2 : ∀ old, old < len + rows.length → Builtin.nextslicecap (len + rows.length) old * ei.bytes ≤ 281474976710656 := fun old ho => by
    have := nextslicecap_le (need := len + rows.length) (old := old) ho
    have h2 : Builtin.nextslicecap (len + rows.length) old * ei.bytes ≤ 2 * (len + rows.length) * ei.bytes := Nat.mul_le_mul_right _ this
    rw [heb] at h2 ⊢
    rw [Nat.mul_comm (2 * (len + rows.length))] at h2
    omega
  unfold Oper.wp
  cases hvx with
  | sl0 _ _ _ ad hS0 =>
    by_cases h0 : rows.length = 0
    · have hrows : rows = [] := List.length_eq_zero_iff.1 h0
      subst hrows
      have hrun := run_app (P := P) ho hxv (w := w) (w' := w) (v := .slice ad 0 0) (run_app0 ad _ news hd hei hsrc)
      rw [hrun]
      have hrel := (hr.sub (H' := del H id) (fun i c h => (look_del h).2)).phantom hns e ei.size pl
      simp only [List.take_zero, List.nil_append, List.length_nil, Nat.add_zero] at hnx
      refine hnx _ _ _ K ⟨fun i hi => updL_ne _ _ (fun e => hi (by omega)), GK.refl _ _, hrel, .sl0 _ n 0 _ (.inr ⟨Nat.le_refl _, Nat.lt_succ_self _⟩), fun _ _ => rfl, fun h => by cases h⟩
    · have hrun := run_app (P := P) ho hxv (run_append_grow_src (P := P) w t tx o.type e ei ezz hd hei hezz ad 0 0 [] (by cases ad <;> simp [run_firstCells_none, Builtin.firstCells, loadCells, loadCellsFrom]) _ rows.length news hsrc (by omega) (by omega) (by simpa using hfit2 0 (by omega)))
      rw [hrun]
      simp only [Nat.zero_add]
      have hge := grownCap_ge w rows.length 0 e
      have hcm : grownCap w rows.length 0 e ≤ maxLen := grownCap_le_maxLen w _ _ e (by simp only [maxLen]; omega)
      generalize grownCap w rows.length 0 e = cap at hge hcm
      have hg := grown_row (w := drw w (w.drawn + 1)) (K := K) (m := m) (S := S) (es := ei.size) (A := []) (B := rows) (olds := []) (news := news) (z := ezz.cells) (extra := cap - rows.length) (pl := pl) (by simp) (by simp) hnewsM hsrc.one (fun hp => (hpl hp).2)
      have hrel := ((hr.sub (H' := del H id) (fun i c h => (look_del h).2)).drw (w.drawn + 1)).new hns ⟨e, ei.size, pl, rows⟩ cap ((([] : List Value) ++ news).toArray ++ Builtin.zeroCells ezz.cells (cap - rows.length)) hge hcm (fun hp r row hr j cv hj => all_rows (hpl hp).2 hr hj)
        (by simp only [List.nil_append, Array.size_append, List.size_toArray, zeroCells_size, hsrc.newsLen, hzs]; rw [← Nat.add_mul]; congr 1; omega) hg
      simp only [List.take_zero, List.nil_append, Nat.zero_add] at hnx
      refine hnx _ _ _ K ⟨fun i hi => updL_ne _ _ (fun e => hi (by omega)), GK.refl _ _, hrel, ?_, fun k hk => Below.heap_alloc _ _ _ (hr.kb k hk), fun h => by cases h⟩
      have hbk : (updL m n ⟨(drw w (w.drawn + 1)).heap.size, cap, ei.size, false⟩ n).blk = w.heap.size := by rw [updL_same]; rfl
      show VR K _ _ _ _ (.slice (some ⟨w.heap.size, 0, none⟩) rows.length cap)
      rw [← hbk]
      exact .sl _ n 0 _ 0 _ (.inr ⟨Nat.le_refl _, Nat.lt_succ_self _⟩) (by rw [updL_same]) (by simp) (by rw [updL_same]; simp)
  | sl _ _ _ _ off c hS0 hph ho hc =>
    have hbr := (hr.own id b hl).br hph
    obtain ⟨cur, c1, c2, c3⟩ := hbr.ex
    rw [Nat.zero_mul] at ho
    subst ho
    rw [Nat.sub_zero] at hc
    subst hc
    have hm : ∀ l i, S i → updL m n l i = m i := fun l i hi => updL_ne _ _ (fun e => hns (e ▸ hi))
    by_cases hroom : len + rows.length ≤ (m id).cap
    · have hmul : (len + rows.length) * b.size ≤ (m id).cap * b.size := Nat.mul_le_mul_right _ hroom
      rw [Nat.add_mul] at hmul
      have hfit : 0 + len * ei.size + news.length ≤ cur.size := by rw [hsrc.newsLen, c2]; rw [hbs] at hmul ⊢; omega
      have hrun := run_app (P := P) ho hxv (run_append_room_row (P := P) (w := w) (ty := o.type) hd hei (m id).blk 0 len (m id).cap _ rows.length news hsrc hroom b.ty cur c1 hfit)
      rw [hrun]
      rw [Nat.zero_add] at hfit ⊢
      have hfl : len * ei.size + news.length ≤ cur.toList.length := by simpa using hfit
      have hold : ∀ (k : Nat), k < len * ei.size → (cur.toList.take (len * ei.size) ++ news ++ cur.toList.drop (len * ei.size + news.length))[k]? = cur[k]? := fun k hk => by
        rw [splice_get _ _ _ _ hfl, if_pos hk, Array.getElem?_toList]
      have hnew : ∀ (k : Nat), k < news.length → (cur.toList.take (len * ei.size) ++ news ++ cur.toList.drop (len * ei.size + news.length))[len * ei.size + k]? = news[k]? := fun k hk => by
        rw [splice_get _ _ _ _ hfl, if_neg (by omega), if_pos (by omega), Nat.add_sub_cancel_left]
      have key := cat_rows (A := b.rows.take len) (B := rows) (K := K) (w := w) (m := m) (S := fun i => S i ∧ pl = false) (S' := S) (sz := ei.size) (c := fun k => (cur.toList.take (len * ei.size) ++ news ++ cur.toList.drop (len * ei.size + news.length))[k]?)
        (fun r row hr' => by
          rw [List.getElem?_take] at hr'
          split at hr'
          · rename_i hrl
            obtain ⟨k1, k2⟩ := c3 r row hr'
            rw [hbs] at k1 k2
            refine ⟨k1, fun j cv hj => ?_⟩
            obtain ⟨y, h1, h2, h3⟩ := k2 j cv hj
            have hjl : j < ei.size := by rw [← k1]; exact (List.getElem?_eq_some_iff.1 hj).1
            refine ⟨y, by rw [hold _ (flat_lt hrl hjl)]; exact h1, h2, ?_⟩
            cases pl with
            | false => exact h3.mono (fun _ h => h) (fun _ _ => rfl) (fun _ h => ⟨h.1, rfl⟩) (fun _ _ => rfl)
            | true => exact h3.plain (hbr.plv (hpl rfl).1 r row hr' j cv hj)
          · cases hr')
        (fun r row hr' => by
          obtain ⟨k1, k2⟩ := hnews r row hr'
          refine ⟨k1, fun j cv hj => ?_⟩
          obtain ⟨y, h1, h2⟩ := k2 j cv hj
          refine ⟨y, ?_, hsrc.one y (List.mem_of_getElem? h1), h2.forPl fun e => all_rows (hpl e).2 hr' hj⟩
          show (cur.toList.take (len * ei.size) ++ news ++ cur.toList.drop (len * ei.size + news.length))[(b.rows.take len).length * ei.size + (r * ei.size + j)]? = some y
          rw [hlA, hnew _ (List.getElem?_eq_some_iff.1 h1).1]; exact h1)
      have hrel := hr.write (w' := w.setRow (m id).blk (cur.toList.take (len * ei.size) ++ news ++ cur.toList.drop (len * ei.size + news.length)).toArray) hl hph (b' := ⟨e, ei.size, pl, b.rows.take len ++ rows⟩) _ hbt.symm hbs.symm rfl rfl rfl (by simp) (fun k hk => setRow_other _ _ _ _ hk) (setRow_heap _ _ _ _ _ _ c1)
        (by simp only [List.length_append, hlA]; omega) (fun hp r row hr' j cv hj => all_rows (hplA hp) hr' hj) (by rw [← c2]; simp; omega) (fun r row hr' => by
          obtain ⟨k1, k2⟩ := key r row hr'
          rw [hbs]
          exact ⟨k1, fun j cv hj => by obtain ⟨y, h1, h2, h3⟩ := k2 j cv hj; exact ⟨y, by simpa using h1, h2, h3⟩⟩)
      have hrel2 := (hrel.rename (n := n) (by rw [look_cons, if_pos rfl]) hns).sub (H' := (n, ⟨e, ei.size, pl, b.rows.take len ++ rows⟩) :: del H id) (fun i bi h => by
        rw [look_cons] at h ⊢
        split at h
        · rename_i he; rw [if_pos he]; exact h
        · rename_i he
          rw [if_neg he]
          obtain ⟨h1, h2⟩ := look_del h
          rw [look_del_ne _ h1, look_cons, if_neg (fun e => h1 e.symm)]
          exact h2)
      refine hnx _ _ _ K ⟨fun i hi => updL_ne _ _ (fun e => hi (by omega)), GK.refl _ _, hrel2, ?_, fun k hk => setRow_other _ _ _ _ (fun e => hbr.nk (e ▸ hk)), fun h => by cases h⟩
      have hbk : (updL m n (m id) n) = m id := updL_same _ _ _
      have : VR K (w.setRow (m id).blk (cur.toList.take (len * ei.size) ++ news ++ cur.toList.drop (len * ei.size + news.length)).toArray) (updL m n (m id)) (addS S n (n + 1)) (.sl n 0 (len + rows.length)) (.slice (some ⟨(updL m n (m id) n).blk, 0, none⟩) (len + rows.length) (m id).cap) :=
        .sl _ n 0 _ 0 _ (.inr ⟨Nat.le_refl _, Nat.lt_succ_self _⟩) (by rw [hbk]; exact hph) (by simp) (by rw [hbk]; simp)
      rw [hbk] at this
      exact this
    · have hold : ∀ (r : Nat) (row : List AV), (b.rows.take len)[r]? = some row → row.length = ei.size ∧ ∀ (j : Nat) (cv : AV), row[j]? = some cv → ∃ y, (cur.toList.take (len * ei.size))[r * ei.size + j]? = some y ∧ y.oneCell' = true ∧ VR K w m S cv y := fun r row hr' => by
        rw [List.getElem?_take] at hr'
        split at hr'
        · rename_i hrl
          obtain ⟨k1, k2⟩ := c3 r row hr'
          rw [hbs] at k1 k2
          refine ⟨k1, fun j cv hj => ?_⟩
          obtain ⟨y, h1, h2, h3⟩ := k2 j cv hj
          have hjl : j < ei.size := by rw [← k1]; exact (List.getElem?_eq_some_iff.1 hj).1
          refine ⟨y, ?_, h2, h3.mono (fun _ h => h) (fun _ _ => rfl) (fun _ h => h.1) (fun _ _ => rfl)⟩
          rw [List.getElem?_take, if_pos (flat_lt hrl hjl), Array.getElem?_toList]
          exact h1
        · cases hr'
      have hlc : len * ei.size ≤ cur.size := by
        have h1 : len ≤ (m id).cap := Nat.le_trans hlen hbr.cap
        have := Nat.mul_le_mul_right b.size h1
        rw [c2]; rw [hbs] at this ⊢; exact this
      have hol : (cur.toList.take (len * ei.size)).length = (b.rows.take len).length * ei.size := by rw [hlA, List.length_take]; simp; omega
      have hfc : (Builtin.firstCells ei.size len (.slice (some ⟨(m id).blk, 0, none⟩) len (m id).cap)).run P w.drew = .ok (cur.toList.take (len * ei.size)).toArray w.drew := by
        refine run_firstCells_some w.drew ei.size len ⟨(m id).blk, 0, none⟩ len (m id).cap _ (by rw [hol, hlA]) fun j v hj => ?_
        rw [List.getElem?_take] at hj
        split at hj
        · rw [Array.getElem?_toList] at hj
          rw [Go.WideShapes.add_plain, Nat.zero_add]
          rw [cell_of_row w.drew _ _ _ _ _ c1]
          exact hj
        · cases hj
      have hrun := run_app (P := P) ho hxv (run_append_grow_src (P := P) w t tx o.type e ei ezz hd hei hezz (some ⟨(m id).blk, 0, none⟩) len (m id).cap _ hfc _ rows.length news hsrc (by omega) (by omega) (hfit2 _ (by omega)))
      rw [hrun]
      have hge := grownCap_ge w (len + rows.length) (m id).cap e
      have hcm : grownCap w (len + rows.length) (m id).cap e ≤ maxLen := grownCap_le_maxLen w _ _ e (by simp only [maxLen]; omega)
      generalize grownCap w (len + rows.length) (m id).cap e = cap at hge hcm
      have hg := grown_row (w := drw w (w.drawn + 1)) (K := K) (m := m) (S := S) (es := ei.size) (A := b.rows.take len) (B := rows) (olds := cur.toList.take (len * ei.size)) (news := news) (z := ezz.cells) (extra := cap - (len + rows.length)) (pl := pl) hol
        (fun r row hr' => ⟨(hold r row hr').1, fun j cv hj => by obtain ⟨y, h1, h2, h3⟩ := (hold r row hr').2 j cv hj; exact ⟨y, h1, h2, h3.mono (fun _ h => h) (fun _ _ => rfl) (fun _ h => h) (fun _ _ => rfl)⟩⟩) hnewsM hsrc.one hplA
      have hrel := ((hr.sub (H' := del H id) (fun i c h => (look_del h).2)).drw (w.drawn + 1)).new hns ⟨e, ei.size, pl, b.rows.take len ++ rows⟩ cap ((cur.toList.take (len * ei.size) ++ news).toArray ++ Builtin.zeroCells ezz.cells (cap - (len + rows.length))) (by simp only [List.length_append, hlA]; exact hge) hcm (fun hp r row hr' j cv hj => all_rows (hplA hp) hr' hj)
        (by simp only [Array.size_append, List.size_toArray, List.length_append, zeroCells_size, hsrc.newsLen, hzs, hol, hlA]; rw [← Nat.add_mul, ← Nat.add_mul]; congr 1; omega) hg
      refine hnx _ _ _ K ⟨fun i hi => updL_ne _ _ (fun e => hi (by omega)), GK.refl _ _, hrel, ?_, fun k hk => Below.heap_alloc _ _ _ (hr.kb k hk), fun h => by cases h⟩
      have hbk : (updL m n ⟨(drw w (w.drawn + 1)).heap.size, cap, ei.size, false⟩ n).blk = w.heap.size := by rw [updL_same]; rfl
      show VR K _ _ _ _ (.slice (some ⟨w.heap.size, 0, none⟩) (len + rows.length) cap)
      rw [← hbk]
      exact .sl _ n 0 _ 0 _ (.inr ⟨Nat.le_refl _, Nat.lt_succ_self _⟩) (by rw [updL_same]) (by simp) (by rw [updL_same]; simp)

/-- cells, row by row -/
def rowsOf (es : Nat) : Nat → List AV → List (List AV)
  | 0, _ => []
  | len + 1, cs => cs.take es :: rowsOf es len (cs.drop es)
theorem rowsOf_len (es : Nat) : ∀ (len : Nat) (cs : List AV), (rowsOf es len cs).length = len
  | 0, _ => rfl
  | len + 1, cs => by simp [rowsOf, rowsOf_len es len]
theorem rowsOf_get {es : Nat} : ∀ {len : Nat} {cs : List AV} {r : Nat} {row : List AV}, (rowsOf es len cs)[r]? = some row → row = (cs.drop (r * es)).take es ∧ r < len
  | 0, cs, r, row, h => by simp [rowsOf] at h
  | len + 1, cs, 0, row, h => by simp [rowsOf] at h; subst h; simp
  | len + 1, cs, r + 1, row, h => by
    simp only [rowsOf, List.getElem?_cons_succ] at h
    obtain ⟨h1, h2⟩ := rowsOf_get h
    rw [List.drop_drop] at h1
    exact ⟨by rw [h1, Nat.add_mul, Nat.one_mul, Nat.add_comm], by omega⟩
def zeros (es : Nat) (ez : List Value) (len : Nat) : List AV := (List.range (len * es)).map fun k => AV.v (ez.getD (k % es) undef)

theorem fillA_len (place : Nat → Option (Nat × Nat)) : ∀ (ps : List (Nat × AV)) (cs cs' : List AV), fillA place cs ps = some cs' → cs'.length = cs.length
  | [], cs, cs', h => by simp only [fillA, Option.some.injEq] at h; rw [h]
  | (i, v) :: ps, cs, cs', h => by
    simp only [fillA] at h
    cases hp : place i with
    | none => simp [hp] at h
    | some os =>
      obtain ⟨off, size⟩ := os
      simp only [hp] at h
      split at h
      · rename_i hc
        simp only [Bool.and_eq_true, Nat.ble_eq] at hc
        have e := Nat.eq_of_beq_eq_true hc.1
        rw [fillA_len place ps _ _ h, splice_len _ _ _ (by rw [e]; exact hc.2)]
      · cases h
/-- a new slice of some parts -/
theorem s_buildSlice {t e : TypeId} {ti : TI} {es eb : Nat} {ez : List Value} {len : Nat} {parts : Array (Nat × Operand)} {ps : List (Nat × AV)} {cs : List AV} (ho : o.op = .buildSlice t len parts) (hty : tiOf P t = some ti) (hk : ti.k = .slice e es eb ez)
    (hz : ez.length = es) (h0 : 0 < len * es) (hlen : len * es ≤ 10000) (hp : parts.toList.mapM (fun p => (evalA T p.2).map fun v => (p.1, v)) = some ps)
    (hc : fillA (fun i => some (i * es, es)) (zeros es ez len) ps = some cs) (h1 : cs.all AV.one = true) :
    Step P o N T H n (.sl n 0 len) ((n, ⟨e, es, cs.all isV, rowsOf es len cs⟩) :: H) (n + 1) true := by
  obtain ⟨i, d, z, hi, hd, hzz, hsz, hagg, hby, hzl, htk⟩ := tiOf_spec hty
  rw [hk] at htk
  obtain ⟨ei, ezz, rfl, hei, hezz, hes, heb, hezl⟩ := tk_slice htk
  subst hes
  have hzs : ezz.cells.size = ei.size := by rw [← hz, ← hezl]; simp
  have hcv : ∀ {r : Nat} {row : List AV}, (rowsOf ei.size len cs)[r]? = some row → ∀ {j : Nat} {cv : AV}, row[j]? = some cv → j < ei.size ∧ r < len ∧ cs[r * ei.size + j]? = some cv := fun {r row} hr {j cv} hj => by
    obtain ⟨e1, e2⟩ := rowsOf_get hr
    subst e1
    rw [List.getElem?_take] at hj
    split at hj
    · rw [List.getElem?_drop] at hj; exact ⟨by assumption, e2, hj⟩
    · cases hj
  refine Step.new ⟨e, ei.size, cs.all isV, rowsOf ei.size len cs⟩ (fun hall r row hr j cv hj => List.all_eq_true.1 hall cv (List.mem_of_getElem? (hcv hr hj).2.2)) fun Old wi K m S a w hr ht => ?_
  obtain ⟨e1, e2⟩ := evals_parts ht _ _ hp
  have hzl2 : ((Array.range (len * ei.size)).map (fun k => ezz.cells[k % ezz.cells.size]!)).toList = (List.range (len * ei.size)).map fun k => ez.getD (k % ei.size) undef := by
    simp only [Array.toList_map, Array.toList_range]
    refine List.map_congr_left fun k hk => ?_
    have hpos : 0 < ei.size := by rcases Nat.eq_zero_or_pos ei.size with e | e; · rw [e] at h0; simp at h0
                                  · exact e
    have hlt : k % ei.size < ei.size := Nat.mod_lt _ hpos
    rw [hzs, getElem!_pos ezz.cells _ (by omega), List.getD_eq_getElem?_getD, ← hezl]
    rw [List.getElem?_eq_getElem (by simp; omega)]
    simp
  have hzv : VRl K w m S (zeros ei.size ez len) ((Array.range (len * ei.size)).map (fun k => ezz.cells[k % ezz.cells.size]!)).toList := by
    rw [hzl2]
    have : zeros ei.size ez len = ((List.range (len * ei.size)).map fun k => ez.getD (k % ei.size) undef).map .v := by simp [zeros]
    rw [this]
    exact VRl.map_v _
  obtain ⟨xs, hx, hv⟩ := fill_vr _ ps (parts.toList.map fun p => (p.1, a.eval p.2)) _ cs _ hzv hc e1 e2
  have hparts : (parts.map fun (p : Nat × Operand) => (p.1, a.eval p.2)).toList = parts.toList.map fun p => (p.1, a.eval p.2) := by simp
  have hcs : cs.length = len * ei.size := by rw [fillA_len _ _ _ _ hc]; simp [zeros]
  have hlen1 : len ≤ len * ei.size := by
    rcases Nat.eq_zero_or_pos ei.size with e | e
    · rw [e] at h0; simp at h0
    · exact Nat.le_mul_of_pos_right _ e
  refine ⟨.slice (some ⟨w.heap.size, 0, none⟩) len len, w.drawn, len, xs, ?_, by simp [rowsOf_len], by simp only [maxLen]; omega, by have := hv.1; simp at this; show xs.size = len * ei.size; omega, ?_, ?_⟩
  · have hrun := run_buildSlice (P := P) w t e len (parts.map fun (p : Nat × Operand) => (p.1, a.eval p.2)) xs ei ezz hd hei hezz (by omega) (by omega) (by rw [hparts]; exact hx)
    simp only [execOp, ho]
    show ((Instr.buildSlice t len (parts.map fun (p : Nat × Operand) => (p.1, a.eval p.2)) >>= fun v => pure (Next.value v) : Sem Next)).run P w = _
    rw [Sem.run_bind, hrun]
    rfl
  · intro r row hr'
    have hrow := rowsOf_get hr'
    refine ⟨?_, fun j cv hj => ?_⟩
    · rw [hrow.1, List.length_take, List.length_drop, hcs]
      have : (r + 1) * ei.size ≤ len * ei.size := Nat.mul_le_mul_right _ hrow.2
      rw [Nat.add_mul] at this
      show min ei.size (len * ei.size - r * ei.size) = ei.size
      omega
    · obtain ⟨g1, g2, g3⟩ := hcv hr' hj
      obtain ⟨y, hy, hvy⟩ := hv.get g3
      refine ⟨y, by simpa using hy, hvy.one (List.all_eq_true.1 h1 cv (List.mem_of_getElem? g3)), hvy.forPl fun hall => List.all_eq_true.1 hall cv (List.mem_of_getElem? g3)⟩
  · intro m' w' hm
    have hbk : (m' n).blk = w.heap.size := by rw [hm]
    rw [← hbk]
    exact .sl _ n 0 _ 0 _ (.inr ⟨Nat.le_refl _, Nat.lt_succ_self _⟩) (by rw [hm]) (by simp) (by rw [hm]; simp)
/-- a new slice without parts -/
theorem s_build0 {t e : TypeId} {ti : TI} {es eb : Nat} {ez : List Value} (ho : o.op = .buildSlice t 0 #[]) (hty : tiOf P t = some ti) (hk : ti.k = .slice e es eb ez) :
    Step P o N T H n (.sl n 0 0) ((n, ⟨e, es, true, []⟩) :: H) (n + 1) true := by
  obtain ⟨i, d, z, hi, hd, hzz, hsz, hagg, hby, hzl, htk⟩ := tiOf_spec hty
  rw [hk] at htk
  obtain ⟨ei, ezz, rfl, hei, hezz, hes, heb, hezl⟩ := tk_slice htk
  refine Step.new ⟨e, es, true, []⟩ (fun _ r row hr j cv hj => by simp at hr) fun Old wi K m S a w hr ht => ?_
  refine ⟨.slice (some ⟨w.heap.size, 0, none⟩) 0 0, w.drawn, 0, #[], ?_, by simp, by simp [maxLen], by simp, by simp, ?_⟩
  · simp [execOp, ho, Instr.buildSlice, run_underlying hd, run_sizeOf w hei, Program.cellsOf, hei, Instr.fill, newRow, Result.andThen]
    congr 2
    exact Array.ext' (by simp)
  · intro m' w' hm
    have hbk : (m' n).blk = w.heap.size := by rw [hm]
    rw [← hbk]
    exact .sl _ n 0 _ 0 _ (.inr ⟨Nat.le_refl _, Nat.lt_succ_self _⟩) (by rw [hm]) (by simp) (by simp [hm])
end
end Go.Proofs.Ytglfcaioapdiaaa.Aw
