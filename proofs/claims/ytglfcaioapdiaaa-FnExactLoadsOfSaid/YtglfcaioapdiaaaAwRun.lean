/-
  A function's contract, out of a walk of its body.
-/
import Derived.Test.YtglfcaioapdiaaaAwFun
namespace Go.Proofs.Ytglfcaioapdiaaa.Aw
open Go Go.RowKit

mutual
def noDeep : AV → Bool
  | .dptr _ => false
  | .om _ _ => false
  | .dsl _ rows => rows.isEmpty
  | .agg cs => noDeepL cs
  | .tup cs => noDeepL cs
  | .fn _ cs => noDeepL cs
  | _ => true
def noDeepL : List AV → Bool
  | [] => true
  | x :: xs => noDeep x && noDeepL xs
end
theorem noDeepL_get : ∀ {l : List AV} {j : Nat} {v : AV}, noDeepL l = true → l[j]? = some v → noDeep v = true
  | [], j, v, _, h => by simp at h
  | x :: l, 0, v, h, h2 => by simp [noDeepL] at h; simp at h2; subst h2; exact h.1
  | x :: l, j + 1, v, h, h2 => by simp [noDeepL] at h; simp at h2; exact noDeepL_get h.2 h2
def noDeepB (b : Blk) : Bool := match b.pl with
  | true => true
  | false => b.rows.all noDeepL

section
variable {P : Program} {K : Nat → Prop} {w : World} {m m2 : Nat → Loc} {S S2 : Nat → Prop}
/-- other names for the blocks, on both sides -/
theorem VR.ren2 {u : AV} {x : Value} (h : VR K w m S u x) (ρ σ : Nat → Nat) (k : Nat) (hm : ∀ i, i < k → m2 (σ i) = m (ρ i) ∧ S2 (σ i)) :
    ∀ v, renA ρ v = u → idsOk k v = true → noDeep v = true → VR NoK w m2 S2 (renA σ v) x := by
  induction h generalizing S2 with
  | v S x => intro v hv hi hd; cases v <;> simp only [renA] at hv <;> cases hv; exact .v _ _
  | dsl0 S size a c => intro v hv hi hd; cases v <;> simp only [renA] at hv <;> cases hv; exact .dsl0 _ _ _ _
  | dsl S size rows n b o c xs hn hc hk hl hx hv ih =>
    intro v hvv hi hd; cases v <;> simp only [renA] at hvv <;> cases hvv
    simp only [noDeep, List.isEmpty_iff] at hd
    subst hd
    simp only [renA]
    have : n = 0 := by simpa using hn
    subst this
    exact .dsl0 _ _ _ _
  | dptr S cells b o xs hk hx hv ih =>
    intro v hvv hi hd; cases v <;> simp only [renA] at hvv <;> cases hvv
    simp [noDeep] at hd
  | om S id D es c b hs hp hq hb hk ho hD =>
    intro v hvv hi hd; cases v <;> simp only [renA] at hvv <;> cases hvv
    simp [noDeep] at hd
  | emp S a => intro v hv hi hd; cases v <;> simp only [renA] at hv <;> cases hv; exact .emp _ _
  | ptr S id row col o hs ho =>
    intro v hvv hi hd; cases v <;> simp only [renA] at hvv <;> cases hvv
    have hlt := hm _ (by simpa [idsOk, Nat.blt_eq] using hi)
    simp only [renA]
    rw [← hlt.1]
    exact .ptr _ _ _ _ o hlt.2 (by rw [hlt.1]; exact ho)
  | sl0 S id row ad hs =>
    intro v hvv hi hd; cases v <;> simp only [renA] at hvv <;> cases hvv
    have hlt := hm _ (by simpa [idsOk, Nat.blt_eq] using hi)
    simp only [renA]
    exact .sl0 _ _ _ _ hlt.2
  | sx S id row len cap o c hs hp ho hcap hc =>
    intro v hvv hi hd; cases v <;> simp only [renA] at hvv <;> cases hvv
    have hlt := hm _ (by simpa [idsOk, Nat.blt_eq] using hi)
    simp only [renA]
    rw [← hlt.1]
    exact .sx _ _ _ _ _ o c hlt.2 (by rw [hlt.1]; exact hp) (by rw [hlt.1]; exact ho) (by rw [hlt.1]; exact hcap) hc
  | sl S id row len o c hs hp ho hc =>
    intro v hvv hi hd; cases v <;> simp only [renA] at hvv <;> cases hvv
    have hlt := hm _ (by simpa [idsOk, Nat.blt_eq] using hi)
    simp only [renA]
    rw [← hlt.1]
    exact .sl _ _ _ _ o c hlt.2 (by rw [hlt.1]; exact hp) (by rw [hlt.1]; exact ho) (by rw [hlt.1]; exact hc)
  | agg S cs xs hl hv ih =>
    intro v hvv hi hd; cases v <;> simp only [renA] at hvv <;> cases hvv
    rename_i cs
    simp only [idsOk] at hi
    simp only [noDeep] at hd
    simp only [renA]
    refine .agg _ _ _ (by rw [hl, renL_len, renL_len]) fun j cv y h1 h2 => ?_
    rw [renL_get] at h1
    cases hj : cs[j]? with
    | none => simp [hj] at h1
    | some c0 =>
      simp only [hj, Option.map_some, Option.some.injEq] at h1
      subst h1
      exact ih j (renA ρ c0) y (by rw [renL_get, hj]; rfl) h2 (hm := hm) c0 rfl (idsOkL_get hi hj) (noDeepL_get hd hj)
  | tup S cs xs hl hv ih =>
    intro v hvv hi hd; cases v <;> simp only [renA] at hvv <;> cases hvv
    rename_i cs
    simp only [idsOk] at hi
    simp only [noDeep] at hd
    simp only [renA]
    refine .tup _ _ _ (by rw [hl, renL_len, renL_len]) fun j cv y h1 h2 => ?_
    rw [renL_get] at h1
    cases hj : cs[j]? with
    | none => simp [hj] at h1
    | some c0 =>
      simp only [hj, Option.map_some, Option.some.injEq] at h1
      subst h1
      exact ih j (renA ρ c0) y (by rw [renL_get, hj]; rfl) h2 (hm := hm) c0 rfl (idsOkL_get hi hj) (noDeepL_get hd hj)
  | fn S f cs xs hl hv ih =>
    intro v hvv hi hd; cases v <;> simp only [renA] at hvv <;> cases hvv
    rename_i cs
    simp only [idsOk] at hi
    simp only [noDeep] at hd
    simp only [renA]
    refine .fn _ _ _ _ (by rw [hl, renL_len, renL_len]) fun j cv y h1 h2 => ?_
    rw [renL_get] at h1
    cases hj : cs[j]? with
    | none => simp [hj] at h1
    | some c0 =>
      simp only [hj, Option.map_some, Option.some.injEq] at h1
      subst h1
      exact ih j (renA ρ c0) y (by rw [renL_get, hj]; rfl) h2 (hm := hm) c0 rfl (idsOkL_get hi hj) (noDeepL_get hd hj)
end

def idx : Nat → List AV → Tp
  | _, [] => []
  | k, x :: xs => (k, x) :: idx (k + 1) xs
theorem look_idx : ∀ (l : List AV) (k t : Nat) (v : AV), look (idx k l) t = some v → k ≤ t ∧ l[t - k]? = some v
  | [], k, t, v, h => by simp [idx, look_nil] at h
  | x :: l, k, t, v, h => by
    simp only [idx, look_cons] at h
    split at h
    · rename_i he; subst he; simp only [Option.some.injEq] at h; subst h; simp
    · obtain ⟨h1, h2⟩ := look_idx l (k + 1) t v h
      refine ⟨by omega, ?_⟩
      rw [show t - k = (t - (k + 1)) + 1 by omega]
      simpa using h2

/-- the value of one result variable -/
inductive ResOne (P : Program) (T : Tp) (H : Hp) : ResultVar → AV → Prop
  | tmp (t : Nat) (v : AV) (h : look T t = some v) : ResOne P T H (.tmp t) v
  | agg (t : Nat) (ty : TypeId) (av : AV) (cells : List AV) (ti : TI) (h : look T t = some av) (hc : memOf H av cells) (hty : tiOf P ty = some ti) (ha : ti.agg = true) (hn : ti.cells ≤ cells.length) : ResOne P T H (.cell t ty) (.agg (cells.take ti.cells))
  | one (t : Nat) (ty : TypeId) (av : AV) (c : AV) (cells : List AV) (ti : TI) (h : look T t = some av) (hc : memOf H av (c :: cells)) (hty : tiOf P ty = some ti) (ha : ti.agg = false) : ResOne P T H (.cell t ty) c

def resOne (tmps : Array Value) : ResultVar → Sem Value
  | .tmp t => pure (tmps.getD t undef)
  | .cell a t => do loadVar t (← asAddr (tmps.getD a undef))

section
variable {P : Program} {Old : Nat → Prop} {wi : WI} {K : Nat → Prop} {m : Nat → Loc} {S : Nat → Prop} {H : Hp} {w : World} {N n : Nat} {T : Tp} {a : Act}

theorem ResOne.run {rv : ResultVar} {v : AV} (h : ResOne P T H rv v) (hr : Rel Old wi K m S H w) (ht : TRel K w m S N T a) : ∃ x, (resOne a.tmps rv).run P w = .ok x w ∧ VR K w m S v x := by
  cases h with
  | tmp t v h => exact ⟨_, rfl, ht.tm t v h⟩
  | agg t ty av cells ti h hc hty ha hn =>
    have hs := s_load_agg (N := N) (n := 0) (o := { dst := none, op := .load ty (.tmp t), type := 0, pos := "", after := #[], guard := none }) rfl hty (T := T) (av := av) h hc ha hn
    have := hs.2 Old wi K m S a w (fun i h1 h2 => by omega) hr ht (fun _ _ => True) (fun _ _ _ => True) (fun _ _ _ _ _ => trivial)
    obtain ⟨g, p, hp, hrd⟩ := rd_at hr (ht.tm t av h) hc
    obtain ⟨i, d, z, hi, hd, hzz, hsz, hagg, hby, hzl, htk⟩ := tiOf_spec hty
    let f : Nat → Value := fun j => (w.cell? ⟨g, p + j, none⟩).getD undef
    have hf : ∀ j, j < ti.cells → ∃ cv y, cells[j]? = some cv ∧ w.cell? ⟨g, p + j, none⟩ = some y ∧ VR K w m S cv y := fun j hj => by
      have hlt : j < cells.length := by omega
      obtain ⟨y, hy, _, hvy⟩ := hrd j _ (List.getElem?_eq_getElem hlt)
      exact ⟨_, y, List.getElem?_eq_getElem hlt, hy, hvy⟩
    have hrun : (loadCells ⟨g, p, none⟩ ti.cells).run P w = .ok ((List.range ti.cells).map f).toArray w := by
      refine run_loadCells w _ ti.cells f fun j hj => ?_
      obtain ⟨cv, y, _, hy, _⟩ := hf j hj
      rw [Go.WideShapes.add_plain]
      simp only [f, hy, Option.getD_some]
    refine ⟨.agg ((List.range ti.cells).map f).toArray, ?_, ?_⟩
    · simp only [resOne, hp, asAddr, Sem.run_bind, Sem.run_pure, Result.andThen, loadVar, run_isAgg w hd, hagg, ha, if_true, run_sizeOf w hi, Program.cellsOf, hi, Option.map_some, Option.getD_some, hsz, hrun]
    · refine .agg _ _ _ (by simp; omega) fun j cv y h1 h2 => ?_
      rw [List.getElem?_take] at h1
      split at h1
      · rename_i hj
        obtain ⟨cv', y', hc', hy', hv'⟩ := hf j hj
        rw [h1] at hc'
        simp only [Option.some.injEq] at hc'
        subst hc'
        rw [List.getElem?_map, List.getElem?_range hj] at h2
        simp only [f, hy', Option.getD_some, Option.map_some, Option.some.injEq] at h2
        subst h2
        exact hv'
      · cases h1
  | one t ty av c cells ti h hc hty ha =>
    obtain ⟨g, p, hp, hrd⟩ := rd_at hr (ht.tm t av h) hc
    obtain ⟨i, d, z, hi, hd, hzz, hsz, hagg, hby, hzl, htk⟩ := tiOf_spec hty
    obtain ⟨y, hy, _, hvy⟩ := hrd 0 _ rfl
    rw [Nat.add_zero] at hy
    refine ⟨y, ?_, hvy⟩
    simp only [resOne, hp, asAddr, Sem.run_bind, Sem.run_pure, Result.andThen, loadVar, run_isAgg w hd, hagg, ha]
    simp [load, Sem.run, hy]

/-- the value that a function returns -/
inductive ResV (P : Program) (T : Tp) (H : Hp) : List ResultVar → AV → Prop
  | r1 (r : ResultVar) (v : AV) (h : ResOne P T H r v) : ResV P T H [r] v
  | r2 (r1 r2 : ResultVar) (v1 v2 : AV) (h1 : ResOne P T H r1 v1) (h2 : ResOne P T H r2 v2) : ResV P T H [r1, r2] (.tup [v1, v2])
  | r3 (r1 r2 r3 : ResultVar) (v1 v2 v3 : AV) (h1 : ResOne P T H r1 v1) (h2 : ResOne P T H r2 v2) (h3 : ResOne P T H r3 v3) : ResV P T H [r1, r2, r3] (.tup [v1, v2, v3])
  | r0 : ResV P T H [] (.tup [])
  | r4 (r1 r2 r3 r4 : ResultVar) (v1 v2 v3 v4 : AV) (h1 : ResOne P T H r1 v1) (h2 : ResOne P T H r2 v2) (h3 : ResOne P T H r3 v3) (h4 : ResOne P T H r4 v4) : ResV P T H [r1, r2, r3, r4] (.tup [v1, v2, v3, v4])

theorem results_eq (fn : Func) (tmps : Array Value) : results fn tmps = (do let vs ← fn.results.mapM (resOne tmps); pure (if h : vs.size = 1 then vs[0] else .tuple vs)) := by
  unfold results
  congr 1

theorem ResV.run {fn : Func} {v : AV} (h : ResV P T H fn.results.toList v) (hr : Rel Old wi K m S H w) (ht : TRel K w m S N T a) : ∃ x, (results fn a.tmps).run P w = .ok x w ∧ VR K w m S v x := by
  obtain ⟨l, hl⟩ : ∃ l, fn.results = l.toArray := ⟨fn.results.toList, by simp⟩
  rw [hl] at h
  rw [results_eq, hl]
  cases h with
  | r1 r v h =>
    obtain ⟨x, h1, h2⟩ := h.run hr ht
    exact ⟨x, by simp [h1], h2⟩
  | r2 r1 r2 v1 v2 h1 h2 =>
    obtain ⟨x1, e1, g1⟩ := h1.run hr ht
    obtain ⟨x2, e2, g2⟩ := h2.run hr ht
    refine ⟨.tuple [x1, x2].toArray, by simp [Result.andThen, e1, e2], .tup _ _ [x1, x2] rfl fun j cv y hj hy => ?_⟩
    match j with
    | 0 => simp at hj hy; subst hj hy; exact g1
    | 1 => simp at hj hy; subst hj hy; exact g2
    | j + 2 => simp at hj
  | r3 r1 r2 r3 v1 v2 v3 h1 h2 h3 =>
    obtain ⟨x1, e1, g1⟩ := h1.run hr ht
    obtain ⟨x2, e2, g2⟩ := h2.run hr ht
    obtain ⟨x3, e3, g3⟩ := h3.run hr ht
    refine ⟨.tuple [x1, x2, x3].toArray, by simp [Result.andThen, e1, e2, e3], .tup _ _ [x1, x2, x3] rfl fun j cv y hj hy => ?_⟩
    match j with
    | 0 => simp at hj hy; subst hj hy; exact g1
    | 1 => simp at hj hy; subst hj hy; exact g2
    | 2 => simp at hj hy; subst hj hy; exact g3
    | j + 3 => simp at hj
  | r0 => exact ⟨.tuple [].toArray, by simp, .tup _ _ [] rfl fun j cv y hj hy => by simp at hj⟩
  | r4 r1 r2 r3 r4 v1 v2 v3 v4 h1 h2 h3 h4 =>
    obtain ⟨x1, e1, g1⟩ := h1.run hr ht
    obtain ⟨x2, e2, g2⟩ := h2.run hr ht
    obtain ⟨x3, e3, g3⟩ := h3.run hr ht
    obtain ⟨x4, e4, g4⟩ := h4.run hr ht
    refine ⟨.tuple [x1, x2, x3, x4].toArray, by simp [Result.andThen, e1, e2, e3, e4], .tup _ _ [x1, x2, x3, x4] rfl fun j cv y hj hy => ?_⟩
    match j with
    | 0 => simp at hj hy; subst hj hy; exact g1
    | 1 => simp at hj hy; subst hj hy; exact g2
    | 2 => simp at hj hy; subst hj hy; exact g3
    | 3 => simp at hj hy; subst hj hy; exact g4
    | j + 4 => simp at hj
end

def shH (n : Nat) (U : Hp) : Hp := U.map fun p => (p.1 + n, renB (fun i => i + n) p.2)

/-- what a body's end must show -/
structure FinOk (P : Program) (rs : List ResultVar) (v : AV) (U : Hp) (k : Nat) (T : Tp) (H : Hp) : Prop where
  res : ∃ u ρ, ResV P T H rs u ∧ u = renA ρ v ∧ subH H ρ k U ∧ injB ρ (U.map (·.1)) = true
  ids : idsOk k v = true
  nd : noDeep v = true
  ndU : U.all (fun p => noDeepB p.2) = true
def Fin (P : Program) (rs : List ResultVar) (v : AV) (U : Hp) (k : Nat) : Exit → Tp → Hp → Nat → Prop
  | .normal, T, H, _ => FinOk P rs v U k T H
  | .ret, T, H, _ => FinOk P rs v U k T H
  | _, _, _, _ => False

theorem look_shH {n : Nat} : ∀ {U : Hp} {i : Nat} {b : Blk}, look (shH n U) i = some b → ∃ j b0, i = j + n ∧ look U j = some b0 ∧ b = renB (fun i => i + n) b0
  | [], i, b, h => by simp [shH, look_nil] at h
  | (u, x) :: U, i, b, h => by
    have h : look ((u + n, renB (fun i => i + n) x) :: shH n U) i = some b := h
    rw [look_cons] at h
    split at h
    · rename_i he; simp only [Option.some.injEq] at h; exact ⟨u, x, he.symm, by rw [look_cons, if_pos rfl], h.symm⟩
    · rename_i he
      obtain ⟨j, b0, h1, h2, h3⟩ := look_shH h
      refine ⟨j, b0, h1, ?_, h3⟩
      rw [look_cons, if_neg (fun e => he (by rw [e, h1]))]
      exact h2
theorem look_all {f : Nat × Blk → Bool} : ∀ {U : Hp} {i : Nat} {b : Blk}, U.all f = true → look U i = some b → f (i, b) = true
  | [], i, b, _, h => by simp [look_nil] at h
  | (u, x) :: U, i, b, ha, h => by
    simp only [List.all_cons, Bool.and_eq_true] at ha
    rw [look_cons] at h
    split at h
    · rename_i he; subst he; simp only [Option.some.injEq] at h; subst h; exact ha.1
    · exact look_all ha.2 h

/-- the ids of the result's blocks: 0 to k - 1, each there -/
def fullB (U : Hp) (k : Nat) : Bool := U.all (fun p => Nat.blt p.1 k && !Nat.beq p.2.size 1000003) && (List.range k).all fun i => (look U i).isSome

theorem RO.of {P : Program} {f : FuncId} {fn : Func} {c : Code} {args : List AV} {v : AV} {U : Hp} (n k : Nat) (hf : P.funcs[f]? = some fn) (hb : fn.body = some c) (hg : goFn P f = true) (hN : args.length ≤ fn.ntmps) (hU : fullB U k = true)
    (h : AW P fn.ntmps 0 c (Fin P fn.results.toList v U k) (idx 0 args) [] 0) : RO P f args n (renA (fun i => i + n) v) (shH n U) (n + k) := by
  simp only [fullB, Bool.and_eq_true] at hU
  obtain ⟨hU1, hU2⟩ := hU
  have hids : ∀ i b, look (shH n U) i = some b → n ≤ i ∧ i < n + k := fun i b hl => by
    obtain ⟨j, b0, h1, h2, _⟩ := look_shH hl
    have := look_all hU1 h2
    simp only [Nat.blt_eq, Bool.and_eq_true] at this
    omega
  refine ⟨hg, by omega, hids, fun K w xs hk hv => ?_⟩
  refine calls_of_wp hf hb ?_
  have hsz : xs.length = args.length := hv.1
  have hr0 : Rel (fun i => i < w.heap.size) ⟨w, fun _ => none⟩ (fun i => i < w.heap.size) (fun _ => ⟨0, 0, 0, false⟩) (fun i => i < 0) [] w :=
    { pin := fun _ _ h => (by cases h), pinS := fun _ _ h => (by cases h), os := rfl, tape := rfl, output := rfl, size := Nat.le_refl _, old := fun _ _ => rfl, olt := fun _ h => h, oown := fun i b hl => by simp [look_nil] at hl, om := fun i b hl => by simp [look_nil] at hl, kb := fun _ h => h, inS := fun i b hl => by simp [look_nil] at hl, own := fun i b hl => by simp [look_nil] at hl, inj := fun i j bi bj hl => by simp [look_nil] at hl }
  have ht0 : TRel (fun i => i < w.heap.size) w (fun _ => ⟨0, 0, 0, false⟩) (fun i => i < 0) fn.ntmps (idx 0 args) { tmps := xs.toArray ++ Array.replicate (fn.ntmps - xs.toArray.size) undef, defers := [] } := by
    refine ⟨rfl, by simp; omega, fun t av hl => ?_⟩
    obtain ⟨_, h2⟩ := look_idx args 0 t av hl
    rw [Nat.sub_zero] at h2
    have hlt : t < xs.length := by rw [hsz]; exact (List.getElem?_eq_some_iff.1 h2).1
    have hx := List.getElem?_eq_getElem hlt
    have := hv.2 t av _ h2 hx
    have he : (xs.toArray ++ Array.replicate (fn.ntmps - xs.toArray.size) undef).getD t undef = xs[t] := by
      rw [Array.getD_eq_getD_getElem?, Array.getElem?_append_left (by simpa using hlt)]
      simp [hlt]
    show VR _ _ _ _ av ((xs.toArray ++ Array.replicate (fn.ntmps - xs.toArray.size) undef).getD t undef)
    rw [he]
    exact this.mono hk (fun _ _ => rfl) (fun _ h => h.elim) (fun _ h => h.elim)
  have fin : ∀ (a' : Act) (w' : World) (T' : Tp) (H' : Hp) (n' : Nat) (m' : Nat → Loc) (K' : Nat → Prop), FinOk P fn.results.toList v U k T' H' → Rel (fun i => i < w.heap.size) ⟨w, fun _ => none⟩ K' m' (fun i => i < n') H' w' →
      TRel K' w' m' (fun i => i < n') fn.ntmps T' a' →
      a'.defers = [] ∧ ∃ x, (results fn a'.tmps).run P w' = .ok x w' ∧ ∃ r m', Ending.returned x = .returned r ∧ NewR n (n + k) (renA (fun i => i + n) v) (shH n U) w r w' m' := by
    intro a' w' T' H' n' m' K' hfin hr ht
    obtain ⟨u, ρ, hres, hu, hs, hi⟩ := hfin.res
    obtain ⟨x, hx, hvx⟩ := hres.run hr ht
    refine ⟨ht.dn, x, hx, x, fun i => m' (ρ (i - n)), rfl, ?_⟩
    have hm : ∀ i, i < k → (fun i => m' (ρ (i - n))) (i + n) = m' (ρ i) ∧ (n ≤ i + n ∧ i + n < n + k) := fun i hi => ⟨by simp, by omega, by omega⟩
    refine ⟨⟨hr.os, hr.tape, hr.output, hr.size, hr.old⟩, hvx.ren2 ρ (fun i => i + n) k hm v hu.symm hfin.ids hfin.nd, fun i h1 h2 hph => ?_, hids, fun i b hl => ?_, fun i j bi bj h1 h2 hne => ?_, fun i b hl hph hq => ?_⟩
    · have := List.all_eq_true.1 hU2 (i - n) (by simp; omega)
      obtain ⟨b0, hb0⟩ := Option.isSome_iff_exists.1 this
      have hnk : ¬ ((m' (ρ (i - n))).blk < w.heap.size) := hr.oown _ _ (subH_get hs hb0).1 hph
      show w.heap.size ≤ (m' (ρ (i - n))).blk
      omega
    · obtain ⟨j, b0, rfl, h2, rfl⟩ := look_shH hl
      obtain ⟨g1, g2, g3⟩ := subH_get hs h2
      have e : j + n - n = j := by omega
      rcases hr.own _ _ g1 with ⟨p1, p2⟩ | ⟨hph, hb⟩
      · refine .inl ⟨by simp only [e]; exact p1, ?_⟩
        cases hp : b0.pl with
        | true => have e : ∀ σ, renB σ b0 = b0 := fun σ => by cases b0; simp only at hp; subst hp; rfl
                  rw [e] at p2 ⊢; exact p2
        | false => have e : ∀ σ, renB σ b0 = { b0 with rows := b0.rows.map (renL σ) } := fun σ => by cases b0; simp only at hp; subst hp; rfl
                   rw [e] at p2 ⊢; simpa using p2
      refine .inr ⟨by simp only [e]; exact hph, ?_⟩
      obtain ⟨cur, c1, c2, c3⟩ := hb.ex
      cases hp : b0.pl with
      | true =>
        have e1 : ∀ σ, renB σ b0 = b0 := fun σ => by cases b0; simp only at hp; subst hp; rfl
        rw [e1] at hb c1 c2 c3 ⊢
        refine ⟨fun h => h, by simp only [e]; exact hb.sz, by simp only [e]; exact hb.cap, by simp only [e]; exact hb.capm, hb.plv, cur, by simp only [e]; exact c1, by simp only [e]; exact c2, fun r row hrow => ⟨(c3 r row hrow).1, fun i cv hi => ?_⟩⟩
        obtain ⟨y, hy, hone, hvy⟩ := (c3 r row hrow).2 i cv hi
        have := hb.plv hp r row hrow i cv hi
        refine ⟨y, hy, hone, ?_⟩
        cases cv <;> simp only [isV] at this <;> try (cases this)
        cases hvy
        exact .v _ _
      | false =>
        have e1 : ∀ σ, renB σ b0 = { b0 with rows := b0.rows.map (renL σ) } := fun σ => by cases b0; simp only at hp; subst hp; rfl
        rw [e1] at hb c1 c2 c3 ⊢
        have hcap := hb.cap
        simp only [List.length_map] at hcap
        have hnd := look_all hfin.ndU h2
        unfold noDeepB at hnd
        unfold idsOkB at g2
        simp only [hp] at hnd g2
        refine ⟨fun h => h, by simp only [e]; exact hb.sz, by simp only [e, List.length_map]; exact hcap, by simp only [e]; exact hb.capm, fun hc => absurd hc (by simp [hp]), cur, by simp only [e]; exact c1, by simp only [e]; exact c2, fun r row hrow => ?_⟩
        simp only [List.getElem?_map] at hrow
        cases hrow0 : b0.rows[r]? with
        | none => simp [hrow0] at hrow
        | some row0 =>
          simp only [hrow0, Option.map_some, Option.some.injEq] at hrow
          subst hrow
          obtain ⟨k1, k2⟩ := c3 r (renL ρ row0) (by simp [hrow0])
          rw [renL_len] at k1
          refine ⟨by rw [renL_len]; exact k1, fun i cv hi => ?_⟩
          rw [renL_get] at hi
          cases hi0 : row0[i]? with
          | none => simp [hi0] at hi
          | some cv0 =>
            simp only [hi0, Option.map_some, Option.some.injEq] at hi
            subst hi
            obtain ⟨y, hy, hone, hvy⟩ := k2 i (renA ρ cv0) (by rw [renL_get, hi0]; rfl)
            exact ⟨y, hy, hone, (hvy.ren2 ρ (fun i => i + n) k (S2 := fun i => (n ≤ i ∧ i < n + k) ∧ b0.pl = false) (fun i hi => ⟨(hm i hi).1, (hm i hi).2, hp⟩) cv0 rfl (idsOkL_get (List.all_eq_true.1 g2 _ (List.mem_of_getElem? hrow0)) hi0) (noDeepL_get (List.all_eq_true.1 hnd _ (List.mem_of_getElem? hrow0)) hi0))⟩
    · obtain ⟨i, b1, rfl, h1, _⟩ := look_shH h1
      obtain ⟨j, b2, rfl, h2, _⟩ := look_shH h2
      have e1 : i + n - n = i := by omega
      have e2 : j + n - n = j := by omega
      simp only [e1, e2]
      exact hr.inj _ _ _ _ (subH_get hs h1).1 (subH_get hs h2).1 (injB_spec hi i j (look_mem h1) (look_mem h2) (fun e => hne (by rw [e])))
    · obtain ⟨j, b0, rfl, h2, rfl⟩ := look_shH hl
      have e : j + n - n = j := by omega
      simp only [e] at hph hq
      have hz := (hr.om _ _ (subH_get hs h2).1 hph hq).1
      have := look_all hU1 h2
      simp only [Bool.and_eq_true, Bool.not_eq_true'] at this
      have h3 := this.2
      simp only [renB] at hz
      rw [hz] at h3
      exact absurd h3 (by decide)
  refine Go.wp_mono (h _ ⟨w, fun _ => none⟩ _ _ _ w (fun _ _ h => by cases h) hr0 ht0) fun e a' w' ⟨T', H', n', m', K', _, q, hr, ht⟩ => ?_
  cases e with
  | normal => exact fin a' w' T' H' n' m' K' q hr ht
  | ret => exact fin a' w' T' H' n' m' K' q hr ht
  | exit id => exact q.elim
  | goto l => exact q.elim
  | panic ch => exact q.elim
  | outgrown => exact q.elim

/-- a plain value -/
theorem RO.ofv {P : Program} {f : FuncId} {fn : Func} {c : Code} {args : List AV} {x : Value} (n : Nat) (hf : P.funcs[f]? = some fn) (hb : fn.body = some c) (hg : goFn P f = true) (hN : args.length ≤ fn.ntmps)
    (h : AW P fn.ntmps 0 c (Fin P fn.results.toList (.v x) [] 0) (idx 0 args) [] 0) : RO P f args n (.v x) [] n := by
  have := RO.of n 0 hf hb hg hN (U := []) rfl h
  simpa [renA, shH] using this
end Go.Proofs.Ytglfcaioapdiaaa.Aw
