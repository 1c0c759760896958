/-
  Ends of loops' rounds: the state there holds the state at the head.
-/
import Derived.Test.YtglfcaioapdiaaaAwQ
namespace Go.Proofs.Ytglfcaioapdiaaa.Aw
open Go Go.RowKit

section
variable {T : Tp} {H : Hp} {ρ : Nat → Nat} {n : Nat} {t : Nat}
theorem lk_i {k : IntKind} {x y : Int} (h : look T t = some (.v (.int k y))) (e : y = x) : look T t = some (renA ρ (.v (.int k x))) ∧ idsOk n (.v (.int k x)) = true := by
  subst e; exact ⟨by rw [h]; rfl, rfl⟩
theorem lk_v {x y : Value} (h : look T t = some (.v y)) (e : y = x) : look T t = some (renA ρ (.v x)) ∧ idsOk n (.v x) = true := by
  subst e; exact ⟨by rw [h]; rfl, rfl⟩
theorem lk_d {s : Nat} {x y : List (List AV)} (h : look T t = some (.dsl s y)) (e : y = x) : look T t = some (renA ρ (.dsl s x)) ∧ idsOk n (.dsl s x) = true := by
  subst e; exact ⟨by rw [h]; simp only [renA], rfl⟩
theorem lk_e (h : look T t = some .emp) : look T t = some (renA ρ .emp) ∧ idsOk n .emp = true := ⟨by rw [h]; simp only [renA], rfl⟩
theorem lkn {i i' : Nat} {ty sz : Nat} {rows rows' : List (List AV)} (h : look H i' = some ⟨ty, sz, false, rows'⟩) (hi : i' = ρ i) (e : rows' = rows.map (renL ρ)) (hk : rows.all (idsOkL n) = true) (hn : Nat.blt i n = true) :
    look H (ρ i) = some (renB ρ ⟨ty, sz, false, rows⟩) ∧ idsOkB n ⟨ty, sz, false, rows⟩ = true ∧ Nat.blt i n = true := by
  subst e hi; exact ⟨h, hk, hn⟩
theorem lk_r {id id' row col : Nat} (h : look T t = some (.ptr id' row col)) (hi : id' = ρ id) (hn : Nat.blt id n = true) : look T t = some (renA ρ (.ptr id row col)) ∧ idsOk n (.ptr id row col) = true := by
  subst hi; exact ⟨by rw [h]; simp only [renA], hn⟩
theorem lk_f {f : FuncId} {caps : List AV} (h : look T t = some (.fn f caps)) (hc : renL ρ caps = caps := by rfl) (hi : idsOkL n caps = true := by rfl) : look T t = some (renA ρ (.fn f caps)) ∧ idsOk n (.fn f caps) = true :=
  ⟨by rw [h]; simp only [renA, hc], hi⟩
theorem lk_p {x y : List AV} (h : look T t = some (.dptr y)) (e : y = x) : look T t = some (renA ρ (.dptr x)) ∧ idsOk n (.dptr x) = true := by
  subst e; exact ⟨by rw [h]; simp only [renA], rfl⟩
theorem lk_s {id id' row len len' : Nat} (h : look T t = some (.sl id' row len')) (hi : id' = ρ id) (e : len' = len) (hn : Nat.blt id n = true) : look T t = some (renA ρ (.sl id row len)) ∧ idsOk n (.sl id row len) = true := by
  subst e hi; exact ⟨by rw [h]; simp only [renA], hn⟩
theorem lkb {i i' : Nat} {ty sz : Nat} {pl : Bool} {rows rows' : List (List AV)} (h : look H i' = some ⟨ty, sz, pl, rows'⟩) (hi : i' = ρ i) (hp : pl = true) (e : rows' = rows) (hn : Nat.blt i n = true) :
    look H (ρ i) = some (renB ρ ⟨ty, sz, true, rows⟩) ∧ idsOkB n ⟨ty, sz, true, rows⟩ = true ∧ Nat.blt i n = true := by
  subst e hi hp; exact ⟨h, rfl, hn⟩
theorem lk_x {id id' row len len' C : Nat} (h : look T t = some (.sx id' row len' C)) (hi : id' = ρ id) (e : len' = len) (hn : Nat.blt id n = true) : look T t = some (renA ρ (.sx id row len C)) ∧ idsOk n (.sx id row len C) = true := by
  subst e hi; exact ⟨by rw [h]; simp only [renA], hn⟩
variable {P : Program} {m : Nat}
/-- a function that returns new blocks -/
theorem RO.ofm {N : Nat} {f : FuncId} {fn : Func} {c : Code} {args : List AV} {rs : List ResultVar} (v : AV) (U : Hp) (k : Nat) {v' : AV} {U' : Hp} (hf : P.funcs[f]? = some fn) (hN : fn.ntmps = N) (hb : fn.body = some c) (hg : goFn P f = true) (hl : Nat.ble args.length N = true) (hrs : fn.results.toList = rs)
    (hv : renA (fun i => i + m) v = v') (hu : shH m U = U') (hU : fullB U k = true) (h : AW P N 0 c (Fin P rs v U k) (idx 0 args) [] 0) : RO P f args m v' U' (m + k) := by
  subst hN hrs hv hu
  exact RO.of m k hf hb hg (by simpa using hl) hU h
/-- the end of a function that returns one new slice of plain cells -/
theorem fin_m {t id len ty sz : Nat} {rows : List (List AV)} (h : look T t = some (.sl id 0 len)) (hb : look H id = some ⟨ty, sz, true, rows⟩) (len' : Nat) (rows' : List (List AV)) (e : len = len') (er : rows = rows') :
    FinOk P [.tmp t] (.sl 0 0 len') [(0, ⟨ty, sz, true, rows'⟩)] 1 T H := by
  subst e er
  exact ⟨⟨.sl id 0 len, fun _ => id, .r1 _ _ (.tmp _ _ h), by simp only [renA], ⟨⟨hb, rfl, rfl⟩, trivial⟩, rfl⟩, rfl, rfl, rfl⟩
/-- .. with a plain value beside it -/
theorem fin_m2 {t u id len ty sz : Nat} {x y : Value} {rows : List (List AV)} (h : look T t = some (.sl id 0 len)) (hu : look T u = some (.v x)) (hb : look H id = some ⟨ty, sz, true, rows⟩) (len' : Nat) (rows' : List (List AV)) (e : len = len') (er : rows = rows') (ex : x = y) :
    FinOk P [.tmp t, .tmp u] (.tup [.sl 0 0 len', .v y]) [(0, ⟨ty, sz, true, rows'⟩)] 1 T H := by
  subst e er ex
  exact ⟨⟨.tup [.sl id 0 len, .v x], fun _ => id, .r2 _ _ _ _ (.tmp _ _ h) (.tmp _ _ hu), by simp only [renA, renL], ⟨⟨hb, rfl, rfl⟩, trivial⟩, rfl⟩, rfl, rfl, rfl⟩
end

/-- a call that is given blocks: its contract out of a walk in names of its own -/
theorem RC.ofc {P : Program} {N n n' g : Nat} {f : FuncId} {fn : Func} {c : Code} {rs : List ResultVar} {args : List AV} {Hi : Hp} {v : AV} {E : Ef} (ids : List Nat) (k : Nat) (args0 : List AV) (Hi0 : Hp) (v0 : AV) (E0 : Ef)
    (hf : P.funcs[f]? = some fn) (hN : fn.ntmps = N) (hb : fn.body = some c) (hg : goFn P f = true) (hl : Nat.ble args0.length N = true) (hrs : fn.results.toList = rs)
    (ha : args0.map (renA (nmC ids n)) = args) (hH : renH (nmC ids n) Hi0 = Hi) (hv : renA (nmC ids n) v0 = v) (hE : renE (nmC ids n) E0 = E) (hn : n + k = n') (hok : okC ids.length k args0 Hi0 v0 E0 = true) (hnd : ids.Nodup) (hgg : ids.length = g)
    (h : AW P N g c (Finc P rs g v0 E0) (idx 0 args0) Hi0 g) : RC P f args Hi n v E n' := by
  subst hN hrs ha hH hv hE hn hgg
  exact RC.of ids n k hf hb hg (by simpa using hl) hok hnd h
def liveE (H : Hp) (ρ : Nat → Nat) : Ef → Prop
  | [] => True
  | (_, none) :: E => liveE H ρ E
  | (i, some b) :: E => look H (ρ i) = some (renB ρ b) ∧ liveE H ρ E
theorem liveE_get {H : Hp} {ρ : Nat → Nat} : ∀ {E : Ef}, liveE H ρ E → ∀ i b, (i, some b) ∈ E → look H (ρ i) = some (renB ρ b)
  | [], _, i, b, hm => by cases hm
  | (j, none) :: E, h, i, b, hm => by
    rcases List.mem_cons.1 hm with e | e
    · cases e
    · exact liveE_get (E := E) h i b e
  | (j, some c) :: E, h, i, b, hm => by
    rcases List.mem_cons.1 hm with e | e
    · cases e; exact h.1
    · exact liveE_get (E := E) h.2 i b e
theorem finc {P : Program} {rs : List ResultVar} {g n : Nat} {u v : AV} {E : Ef} {T : Tp} {H : Hp} (ρ : Nat → Nat) (hr : ResV P T H rs u) (e : u = renA ρ v) (hp : ∀ i, i < g → ρ i = i) (hl : liveE H ρ E) (hi : injB ρ (E.filterMap fun p => p.2.map fun _ => p.1) = true) :
    Finc P rs g v E .ret T H n := ⟨ρ, ⟨e ▸ hr, hp, liveE_get hl, hi⟩⟩
/-- values that a callee sees as they are -/
def FzC (caps : List AV) : Prop := ∀ H, FzL H caps caps
theorem Fz.fnC {H : Hp} {f : FuncId} {caps : List AV} (h : FzC caps) : Fz H (.fn f caps) (.fn f caps) := by
  intro Old wi K m S w x hr hv
  cases hv with
  | fn _ _ _ xs hl hv =>
    obtain ⟨h1, h2⟩ := (h H).get
    refine .fn _ _ _ _ hl fun j cv y hj hy => ?_
    obtain ⟨x0, hx0, hf⟩ := h2 j cv hj
    exact hf Old wi K m S w y hr (hv j x0 y hx0 hy)
theorem Fz.agg {H : Hp} {cs cs' : List AV} (h : FzL H cs cs') : Fz H (.agg cs) (.agg cs') := by
  intro Old wi K m S w x hr hv
  cases hv with
  | agg _ _ xs hl hv =>
    obtain ⟨h1, h2⟩ := h.get
    refine .agg _ _ xs (by rw [hl, h1]) fun j cv y hj hy => ?_
    obtain ⟨x0, hx0, hf⟩ := h2 j cv hj
    exact hf Old wi K m S w y hr (hv j x0 y hx0 hy)
theorem Fz.fnL {H : Hp} {f : FuncId} {cs cs' : List AV} (h : FzL H cs cs') : Fz H (.fn f cs) (.fn f cs') := by
  intro Old wi K m S w x hr hv
  cases hv with
  | fn _ _ _ xs hl hv =>
    obtain ⟨h1, h2⟩ := h.get
    refine .fn _ _ _ _ (by rw [hl, h1]) fun j cv y hj hy => ?_
    obtain ⟨x0, hx0, hf⟩ := h2 j cv hj
    exact hf Old wi K m S w y hr (hv j x0 y hx0 hy)
/-- a pointer to a block of the call's own -/
theorem Fz.ptrL {H : Hp} {id row col ty sz : Nat} {pl : Bool} {rows : List (List AV)} {r cs' : List AV} (hl : look H id = some ⟨ty, sz, pl, rows⟩) (hrow : rows[row]? = some r) (h : FzL H (r.drop col) cs') : Fz H (.ptr id row col) (.dptr cs') := by
  intro Old wi K m S w x hr hv
  obtain ⟨g, p, rfl, hrd⟩ := rd_at hr hv (.inr ⟨id, row, col, _, r, rfl, hl, hrow, rfl⟩)
  obtain ⟨h1, h2⟩ := h.get
  cases hv with
  | ptr _ _ _ _ q hS ho =>
    obtain ⟨hph, hbr⟩ := (hr.own id _ hl).real hrow
    refine .dptr _ _ _ _ (fun j => (w.cell? ⟨(m id).blk, p + j, none⟩).getD undef) hbr.lt_size (fun j cv hj => ?_) (fun j cv hj => ?_)
    · obtain ⟨x0, hx0, hf⟩ := h2 j cv hj
      obtain ⟨y, hy, hone, hvy⟩ := hrd j x0 hx0
      rw [hy]; exact ⟨rfl, hone⟩
    · obtain ⟨x0, hx0, hf⟩ := h2 j cv hj
      obtain ⟨y, hy, hone, hvy⟩ := hrd j x0 hx0
      simp only [hy, Option.getD_some]
      exact hf Old wi K m S w y hr hvy
theorem dt_full {br : List (List AV)} {l : Nat} (h : br.length ≤ l) : (br.drop 0).take l = br := by rw [List.drop_zero]; exact List.take_of_length_le h
theorem Fz.sl2 {H : Hp} {id row len ty sz : Nat} {br rows : List (List AV)} (hl : look H id = some ⟨ty, sz, true, br⟩) (hn : row + len ≤ br.length) (he : (br.drop row).take len = rows) : Fz H (.sl id row len) (.dsl sz rows) := Fz.sl hl rfl hn he
/-- a row that is filled from the left -/
def partR {α : Type} (xs : List α) (z : α) (i : Nat) : List α := xs.take i ++ List.replicate (xs.length - i) z
section
variable {α : Type} {xs : List α} {z : α} {i : Nat}
theorem partR_zero : partR xs z 0 = List.replicate xs.length z := by simp [partR]
theorem partR_full (h : xs.length ≤ i) : partR xs z i = xs := by
  unfold partR; rw [List.take_of_length_le h, Nat.sub_eq_zero_of_le h]; simp
theorem partR_len (h : i ≤ xs.length) : (partR xs z i).length = xs.length := by simp [partR]; omega
theorem partR_get (h : i < xs.length) : (partR xs z i)[i]? = some z := by
  unfold partR
  have hl : (xs.take i).length = i := by simp; omega
  rw [List.getElem?_append_right (by omega), hl, Nat.sub_self, List.getElem?_replicate, if_pos (by omega)]
theorem partR_set (h : i < xs.length) : (partR xs z i).set i xs[i] = partR xs z (i + 1) := by
  unfold partR
  have hl : (xs.take i).length = i := by simp; omega
  rw [List.set_append_right _ _ (by omega), hl, Nat.sub_self]
  obtain ⟨d, hd⟩ : ∃ d, xs.length - i = d + 1 := ⟨xs.length - i - 1, by omega⟩
  rw [hd, List.replicate_succ, List.set_cons_zero, show xs.length - (i + 1) = d by omega, List.take_succ_eq_append_getElem h, List.append_assoc, List.singleton_append]
end
end Go.Proofs.Ytglfcaioapdiaaa.Aw
