/-
  What the law FnBackhaul rests on, part 3.
-/
import Derived.Test.YtglfcaioapdiaaaZFnBackhaul2
namespace Go.Proofs.Ytglfcaioapdiaaa.Fg
open Go.ChangeShapes Go.WideShapes Go.ChangeAt Go.RowKit Go.Deep
open Go.ChangeMaps (open_string shut_string)
set_option linter.unusedSimpArgs false
def SlV {α : Type} (cV : α → List Value) (sz : Nat) (w : World) (v : Value) (xs : List α) : Prop :=
  Aw.VR (fun k => k < w.heap.size) w (fun _ => ⟨0, 0, 0, false⟩) Aw.NoS (.dsl sz (xs.map fun a => (cV a).map .v)) v ∧ xs.length ≤ 9223372036854775807
section
variable {P : Program} {H : Type} {enc : TypeId × Value → H} {W : World} {r : Reach} {b0 base : Nat} {spare : Nat → Bool} {held : Bool} {v : Value} {d : DataW H} {p : List MemPlace}
theorem sl_open {t e : TypeId} {sz : Nat} {α : Type} [Inhabited α] {cV : α → List Value} {Q : α → Prop} {fuel : Nat} {x : DataW H × List MemPlace} (hU : P.underlying t = some (.slice e)) (hcells : P.cellsOf e = sz) (hsz : 0 < sz) (hlen : ∀ a, (cV a).length = sz)
    (hone : ∀ a, ∀ y ∈ cV a, y.oneCell' = true) (hel : ∀ fuel cs x, DataW.trod enc P W base spare held fuel e cs = some x → ∃ a, cs = cV a ∧ Q a) (h : DataW.trod enc P W base spare held fuel t [v] = some x) :
    ∃ xs : List α, SlV cV sz W v xs ∧ ∀ a ∈ xs, Q a := by
  rcases open_slice hU h with ⟨hc, _⟩ | ⟨a, len, cap, m, n, D, Pl, hc, hb, hl, hm, hmm, _, hels⟩
  · simp only [List.cons.injEq, and_true] at hc
    subst hc
    exact ⟨[], ⟨.dsl0 _ _ _ _, by simp⟩, by simp⟩
  · simp only [List.cons.injEq, and_true] at hc
    subst hc
    have hlm : len ≤ m := by rw [hmm]; split <;> omega
    obtain ⟨f, hf2⟩ := choose_lt (n := len) (p := fun i (l : α) => W.cells? base (a.add (i * sz)) sz = some (cV l) ∧ Q l) fun i hi => by
      obtain ⟨cs', h1, h2⟩ := hels i (by omega)
      rw [hcells] at h1
      obtain ⟨l, rfl, hs⟩ := hel _ _ _ h2
      exact ⟨l, h1, hs⟩
    refine ⟨(List.range len).map f, ⟨?_, by simp only [maxLen] at hm; simp; omega⟩, fun l hl => ?_⟩
    · obtain ⟨b, off, spot⟩ := a
      cases len with
      | zero => exact .dsl0 _ _ _ _
      | succ len =>
        have hc0 : ∀ r, r < len + 1 → ∀ j, j < sz → W.cell? ((⟨b, off, spot⟩ : Addr).add (r * sz + j)) = (cV (f r))[j]? := fun r hr j hj => by
          obtain ⟨_, _, hc⟩ := World.cells?_some (hf2 r hr).1
          rw [← add_add]
          exact hc j hj
        obtain ⟨y0, hy0⟩ : ∃ y0, (cV (f 0))[0]? = some y0 := ⟨_, List.getElem?_eq_getElem (by rw [hlen]; exact hsz)⟩
        have h2 : W.cell? ((⟨b, off, spot⟩ : Addr).add 0) = some y0 := by
          have := hc0 0 (by omega) 0 hsz
          simp only [Nat.zero_mul, Nat.add_zero] at this
          rw [this, hy0]
        have hspot : spot = none := by simpa [Addr.add] using World.cell?_spot h2
        subst hspot
        have hlt : b < W.heap.size := block_lt_of_cell h2
        have get : ∀ (l : α) (j : Nat) (cv : Aw.AV), ((cV l).map Aw.AV.v)[j]? = some cv → ∃ y, (cV l)[j]? = some y ∧ cv = .v y ∧ y.oneCell' = true := fun l j cv h => by
          rw [List.getElem?_map] at h
          cases hj : (cV l)[j]? with
          | none => simp [hj] at h
          | some y =>
            simp only [hj, Option.map_some, Option.some.injEq] at h
            exact ⟨y, rfl, h.symm, hone l y (List.mem_of_getElem? hj)⟩
        refine .dsl _ sz _ _ b off cap (fun r j => ((cV (f r))[j]?).getD undef) (by simp) (by simpa using hl) hlt (fun r row hr => ?_) (fun r row j cv hr hj => ?_) (fun r row j cv hr hj => ?_)
        all_goals
          rw [List.getElem?_map, List.getElem?_map] at hr
          have hrl : r < len + 1 := by
            rcases Nat.lt_or_ge r (len + 1) with h | h
            · exact h
            · rw [List.getElem?_eq_none (by simpa using h)] at hr; simp at hr
          rw [List.getElem?_range hrl] at hr
          simp only [Option.map_some, Option.some.injEq] at hr
          subst hr
        · simp [hlen]
        · obtain ⟨y, hy, rfl, hone⟩ := get _ _ _ hj
          have hjl : j < sz := by rw [← hlen (f r)]; exact (List.getElem?_eq_some_iff.1 hy).1
          have := hc0 r hrl j hjl
          rw [Go.WideShapes.add_plain] at this
          simp only [hy, Option.getD_some]
          refine ⟨?_, hone⟩
          rw [Nat.add_assoc, this, hy]
        · obtain ⟨y, hy, rfl, hone⟩ := get _ _ _ hj
          simp only [hy, Option.getD_some]
          exact .v _ _
    · obtain ⟨i, hi, rfl⟩ := List.mem_map.1 hl
      exact (hf2 i (by simpa using hi)).2
theorem sl_cell {t e : TypeId} (hU : P.underlying t = some (.slice e)) (hv : Value.okWide P W r b0 t v) : v.cells.toList = [v] := by
  have hsl : ∃ a n c, v = .slice a n c := by
    simp only [Value.okWide, hU, Cell.okWide] at hv
    cases v <;> simp_all [Cell.ok]
  obtain ⟨a, n, c, rfl⟩ := hsl
  rfl
end
end Go.Proofs.Ytglfcaioapdiaaa.Fg
namespace Go.Proofs.Ytglfcaioapdiaaa.Fr
open Go.ChangeShapes Go.WideShapes Go.ChangeAt Go.RowKit Go.Deep
open Go.Proofs.Ytglfcaioapdiaaa.Sr Go.Proofs.Ytglfcaioapdiaaa.Fg
def byC (x : Int) : List Value := [.int .u8 x]
def IsBytes (w : World) (v : Value) : Prop := ∃ bs : List Int, Aw.VR (fun k => k < w.heap.size) w (fun _ => ⟨0, 0, 0, false⟩) Aw.NoS (.dsl 1 (byL bs)) v ∧ (∀ b ∈ bs, 0 ≤ b ∧ b ≤ 255) ∧ bs.length ≤ 9223372036854775807
section
variable {H : Type} {enc : TypeId × Value → H} {W : World} {r : Reach} {b0 base : Nat} {spare : Nat → Bool} {held : Bool} {v : Value} {d : DataW H} {p : List MemPlace}
theorem cellsByte : Try.prog.cellsOf 5 = 1 := by kernel_rfl
theorem byte_cells {fuel : Nat} {cs : List Value} {x : DataW H × List MemPlace} (h : DataW.trod enc Try.prog W base spare held fuel 5 cs = some x) : ∃ n : Int, cs = byC n ∧ (0 ≤ n ∧ n ≤ 255) := by
  obtain ⟨n, e, _, w⟩ := DataW.trod_int Try.underlying5 h
  have := bounds_u8 w
  exact ⟨n, e, by omega⟩
set_option maxRecDepth 100000 in
theorem isBytes_of (hv : Value.okWide Try.prog W r b0 47 v) (h : DataW.Trod enc Try.prog W base spare held 47 v d p) : IsBytes W v := by
  obtain ⟨fuel, hf⟩ := h
  rw [sl_cell Try.underlying47 hv] at hf
  obtain ⟨xs, h1, h2⟩ := sl_open (Q := fun n => 0 ≤ n ∧ n ≤ 255) Try.underlying47 cellsByte (by omega) (fun _ => rfl) (fun a y hy => by simp [byC] at hy; subst hy; rfl) (fun _ _ _ h => byte_cells h) hf
  exact ⟨xs, h1.1, h2, h1.2⟩
end
end Go.Proofs.Ytglfcaioapdiaaa.Fr

namespace Go.Proofs.Ytglfcaioapdiaaa.Aw
open Go Go.RowKit
set_option linter.unusedSimpArgs false
set_option linter.unusedVariables false
abbrev wi0 (w : World) (hgl : Gl w) : WI (fun i => i < w.heap.size) := ⟨w, fun _ => none, hgl, fun _ hk => Nat.lt_of_lt_of_le hk hgl.size⟩
theorem fin_new {P : Program} {fn : Func} {v : AV} {U : Hp} {n k : Nat} {w : World} {hgl : Gl w} (hU : fullB U k = true) {a' : Act} {w' : World} {T' : Tp} {H' : Hp} {n' : Nat} {m' : Nat → Loc} {K' : Nat → Prop} (hfin : FinOk P fn.results.toList v U k T' H')
    (hr : Rel (fun i => i < w.heap.size) (wi0 w hgl) K' m' (fun i => i < n') H' w') (ht : TRel K' w' m' (fun i => i < n') fn.ntmps T' a') :
    a'.defers = [] ∧ ∃ x, (results fn a'.tmps).run P w' = .ok x w' ∧ ∃ r m', Ending.returned x = .returned r ∧ NewR n (n + k) (renA (fun i => i + n) v) (shH n U) w r w' m' := by
  simp only [fullB, Bool.and_eq_true] at hU
  obtain ⟨hU1, hU2⟩ := hU
  have hids : ∀ i b, look (shH n U) i = some b → n ≤ i ∧ i < n + k := fun i b hl => by
    obtain ⟨j, b0, h1, h2, _⟩ := look_shH hl
    have := look_all hU1 h2
    simp only [Nat.blt_eq, Bool.and_eq_true] at this
    omega
  obtain ⟨u, ρ, hres, hu, hs, hi⟩ := hfin.res
  obtain ⟨x, hx, hvx⟩ := hres.run hr ht
  refine ⟨ht.dn, x, hx, x, fun i => m' (ρ (i - n)), rfl, ?_⟩
  have hm : ∀ i, i < k → (fun i => m' (ρ (i - n))) (i + n) = m' (ρ i) ∧ (n ≤ i + n ∧ i + n < n + k) := fun i hi => ⟨by simp, by omega, by omega⟩
  refine ⟨⟨hr.os, hr.tape, hr.output, hr.size, hr.old⟩, hvx.ren2 ρ (fun i => i + n) k hm v hu.symm hfin.ids hfin.nd, fun i h1 h2 hph => ?_, hids, fun i b hl => ?_, fun i j bi bj h1 h2 hne => ?_, fun i b hl hph hq => ?_⟩
  · have := List.all_eq_true.1 hU2 (i - n) (by simp; omega)
    obtain ⟨b0, hb0⟩ := Option.isSome_iff_exists.1 this
    have hnk : ¬ ((m' (ρ (i - n))).blk < w.heap.size) := hr.oown _ _ (subH_get hs hb0).1 hph
    show w.heap.size ≤ (m' (ρ (i - n))).blk
    omega
  · obtain ⟨j, b0, rfl, h2, rfl⟩ := look_shH hl
    obtain ⟨g1, g2, g3⟩ := subH_get hs h2
    have e : j + n - n = j := by omega
    rcases hr.own _ _ g1 with ⟨p1, p2⟩ | ⟨hph, hb⟩
    · refine .inl ⟨by simp only [e]; exact p1, ?_⟩
      cases hp : b0.pl with
      | true => have e : ∀ σ, renB σ b0 = b0 := fun σ => by cases b0; simp only at hp; subst hp; rfl
                rw [e] at p2 ⊢; exact p2
      | false => have e : ∀ σ, renB σ b0 = { b0 with rows := b0.rows.map (renL σ) } := fun σ => by cases b0; simp only at hp; subst hp; rfl
                 rw [e] at p2 ⊢; simpa using p2
    refine .inr ⟨by simp only [e]; exact hph, ?_⟩
    obtain ⟨cur, c1, c2, c3⟩ := hb.ex
    cases hp : b0.pl with
    | true =>
      have e1 : ∀ σ, renB σ b0 = b0 := fun σ => by cases b0; simp only at hp; subst hp; rfl
      rw [e1] at hb c1 c2 c3 ⊢
      refine ⟨fun h => h, by simp only [e]; exact hb.sz, by simp only [e]; exact hb.cap, by simp only [e]; exact hb.capm, hb.plv, cur, by simp only [e]; exact c1, by simp only [e]; exact c2, fun r row hrow => ⟨(c3 r row hrow).1, fun i cv hi => ?_⟩⟩
      obtain ⟨y, hy, hone, hvy⟩ := (c3 r row hrow).2 i cv hi
      have := hb.plv hp r row hrow i cv hi
      refine ⟨y, hy, hone, ?_⟩
      cases cv <;> simp only [isV] at this <;> try (cases this)
      cases hvy
      exact .v _ _
    | false =>
      have e1 : ∀ σ, renB σ b0 = { b0 with rows := b0.rows.map (renL σ) } := fun σ => by cases b0; simp only at hp; subst hp; rfl
      rw [e1] at hb c1 c2 c3 ⊢
      have hcap := hb.cap
      simp only [List.length_map] at hcap
      have hnd := look_all hfin.ndU h2
      unfold noDeepB at hnd
      unfold idsOkB at g2
      simp only [hp] at hnd g2
      refine ⟨fun h => h, by simp only [e]; exact hb.sz, by simp only [e, List.length_map]; exact hcap, by simp only [e]; exact hb.capm, fun hc => absurd hc (by simp [hp]), cur, by simp only [e]; exact c1, by simp only [e]; exact c2, fun r row hrow => ?_⟩
      simp only [List.getElem?_map] at hrow
      cases hrow0 : b0.rows[r]? with
      | none => simp [hrow0] at hrow
      | some row0 =>
        simp only [hrow0, Option.map_some, Option.some.injEq] at hrow
        subst hrow
        obtain ⟨k1, k2⟩ := c3 r (renL ρ row0) (by simp [hrow0])
        rw [renL_len] at k1
        refine ⟨by rw [renL_len]; exact k1, fun i cv hi => ?_⟩
        rw [renL_get] at hi
        cases hi0 : row0[i]? with
        | none => simp [hi0] at hi
        | some cv0 =>
          simp only [hi0, Option.map_some, Option.some.injEq] at hi
          subst hi
          obtain ⟨y, hy, hone, hvy⟩ := k2 i (renA ρ cv0) (by rw [renL_get, hi0]; rfl)
          exact ⟨y, hy, hone, (hvy.ren2 ρ (fun i => i + n) k (S2 := fun i => (n ≤ i ∧ i < n + k) ∧ b0.pl = false) (fun i hi => ⟨(hm i hi).1, (hm i hi).2, hp⟩) cv0 rfl (idsOkL_get (List.all_eq_true.1 g2 _ (List.mem_of_getElem? hrow0)) hi0) (noDeepL_get (List.all_eq_true.1 hnd _ (List.mem_of_getElem? hrow0)) hi0))⟩
  · obtain ⟨i, b1, rfl, h1, _⟩ := look_shH h1
    obtain ⟨j, b2, rfl, h2, _⟩ := look_shH h2
    have e1 : i + n - n = i := by omega
    have e2 : j + n - n = j := by omega
    simp only [e1, e2]
    exact hr.inj _ _ _ _ (subH_get hs h1).1 (subH_get hs h2).1 (injB_spec hi i j (look_mem h1) (look_mem h2) (fun e => hne (by rw [e])))
  · obtain ⟨j, b0, rfl, h2, rfl⟩ := look_shH hl
    have e : j + n - n = j := by omega
    simp only [e] at hph hq
    have hz := (hr.om _ _ (subH_get hs h2).1 hph hq).1
    have := look_all hU1 h2
    simp only [Bool.and_eq_true, Bool.not_eq_true'] at this
    have h3 := this.2
    simp only [renB] at hz
    rw [hz] at h3
    exact absurd h3 (by decide)

/-! the machine's rule, for one iterator at a time -/
def rndPost (D : Nat) (o : Obj) (I Ix : World → Prop) : Exit → Act → World → Prop
  | .normal, _, W => W.heap[D]? = some (.deferred (some [])) ∧ W.heap[D + 1]? = some o ∧ I W
  | .ret, _, W => W.heap[D]? = some (.deferred (some [])) ∧ W.heap[D + 1]? = some o ∧ Ix W
  | _, _, _ => False
theorem wpIn_back {P : Program} {g : Operand} {ps : Array Tmp} {assign body : Code} {Q : Exit → Act → World → Prop} {a : Act} {w : World} {gf : Nat} {lb : Array Value}
    (hg : a.eval g = .func (.func gf) #[] lb) (eg : ∀ args w, (callFunc gf args).run P w = .ok (.enter gf args) w)
    {len : Nat} {encs : Nat → Array Value} (hps : ∀ k, (encs k).size = ps.size) {I : Nat → World → Prop} {Ix : World → Prop}
    (hiter : ∀ (l : Nat) (J : Nat → World → Prop) (Jx : World → Prop) (W : World), (∀ k W, J k W → I k W) →
      (∀ k W, J k W → k < len → YieldAt (FW none) 0 P l (encs k) W fun e W' => (e = .returned (.bool true) ∧ J (k + 1) W') ∨ (e = .returned (.bool false) ∧ Jx W')) → J 0 W →
      CallsIn (FW none) 0 P gf (#[.func (.yield l) #[] #[]] ++ lb) W fun e W' => (∃ v, e = .returned v) ∧ (J len W' ∨ Jx W'))
    (h0 : ∀ o1 o2, I 0 ((w.alloc o1).alloc o2))
    (hput : ∀ k W o o', I k W → W.heap[w.heap.size + 1]? = some o → o.isCells = false → I k (W.putObj (w.heap.size + 1) o'))
    (hputx : ∀ W o o', Ix W → W.heap[w.heap.size + 1]? = some o → o.isCells = false → Ix (W.putObj (w.heap.size + 1) o'))
    (hround : ∀ k W o, k < len → I k W → W.heap[w.heap.size]? = some (.deferred (some [])) → W.heap[w.heap.size + 1]? = some o → o.isCells = false →
      assign.wpIn (FW (some (w.heap.size + 1))) 0 P (Exit.then (fun a₁ w₁ => w₁.heap[w.heap.size + 1]? = some o ∧ ∀ o', o'.isCells = false → body.wpIn (FW (some (w.heap.size + 1))) 0 P (rndPost w.heap.size o' (I (k + 1)) Ix) a₁ (w₁.putObj (w.heap.size + 1) o')) (fun _ _ _ => False))
        { tmps := (ps.zip (encs k)).foldl (fun t (p, v) => t.setIfInBounds p v) a.tmps, defers := [] } W)
    (hdone : ∀ W, I len W → W.heap[w.heap.size]? = some (.deferred (some [])) → Q .normal { a with defers := { target := .collected w.heap.size, args := #[] } :: a.defers } W)
    (hstop : ∀ W, Ix W → W.heap[w.heap.size]? = some (.deferred (some [])) → Q .ret { a with defers := { target := .collected w.heap.size, args := #[] } :: a.defers } W) :
    (Code.rangeFunc g ps assign body).wpIn (FW none) 0 P Q a w := by
  refine wpIn_rangeFunc ?_
  intro fn hfn
  obtain ⟨rec, hrec⟩ : ∃ rec : LoopState → Option Code → Loop, rec = fun st pe => { state := st, pending := pe, fn, tmps := a.tmps, params := ps, assign, body, defers := w.heap.size } := ⟨_, rfl⟩
  obtain ⟨W1, hW1⟩ : ∃ W1, (w.alloc (.deferred (some []))).alloc (.loop (rec .ready none)) = W1 := ⟨_, rfl⟩
  have hL1 : W1.heap[w.heap.size + 1]? = some (.loop (rec .ready none)) := by
    rw [← hW1]; have := World.alloc_heap_new (w.alloc (.deferred (some []))) (.loop (rec .ready none)); rwa [World.size_alloc] at this
  have hK1 : W1.heap[w.heap.size]? = some (.deferred (some [])) := by
    rw [← hW1]; exact (Below.heap_alloc _ _ _ (by simp)).trans (World.alloc_heap_new w _)
  have hI1 : I 0 W1 := by rw [← hW1]; exact h0 _ _
  refine ⟨w.heap.size + 1, [{ target := .collected w.heap.size, args := #[] }], W1, { target := .fn (.func gf) lb, args := #[.func (.yield (w.heap.size + 1)) #[] #[]] }, W1, gf,
    #[.func (.yield (w.heap.size + 1)) #[] #[]] ++ lb, W1, ?_, ?_, fun _ _ => trivial, ?_, fun h => by simp at h, ?_⟩
  · rw [← hW1, hrec]; exact run_enterLoop_outer _ _ _ _ _
  · simp only [resolve, hg]
    simp [go_sem]
  · simp [invoke, go_sem, eg]
  · have at2 : ∀ {W : World} {l : Nat} {o' : Obj} {o : Obj}, W.heap[l]? = some o → (W.putObj l o').heap[l]? = some o' := fun h => World.putObj_heap_same (Array.getElem?_eq_some_iff.1 h).1
    refine (hiter (w.heap.size + 1)
      (fun k W => I k W ∧ W.heap[w.heap.size + 1]? = some (.loop (rec .ready none)) ∧ W.heap[w.heap.size]? = some (.deferred (some [])))
      (fun W => Ix W ∧ W.heap[w.heap.size + 1]? = some (.loop (rec .done (some .ret))) ∧ W.heap[w.heap.size]? = some (.deferred (some [])))
      W1 (fun _ _ h => h.1) ?_ ⟨hI1, hL1, hK1⟩).mono ?_
    · rintro k W ⟨hi, hl, hk⟩ hlen
      have hy := run_yield (P := P) (args := encs k) hl (by rw [hrec]; exact hps k)
      rw [hrec] at hy
      refine ⟨fn, _, assign, body, hy, roundIn_of_wpIn trivial (wpIn_mono (hround k W _ hlen hi hk hl rfl) ?_)⟩
      rintro e a₁ w₁ hp
      cases e with
      | normal =>
        obtain ⟨hl1, hb⟩ := hp
        refine ⟨_, run_beginRound hl1 (by rw [hrec]), wpIn_mono (hb _ rfl) ?_⟩
        rintro e a3 W3 hp
        cases e with
        | normal =>
          obtain ⟨hk3, hl3, hi3⟩ := hp
          have hr := run_endRound (P := P) none hl3
          refine ⟨_, _, hr, .inl ⟨rfl, hput _ _ _ _ hi3 hl3 rfl, ?_, (World.putObj_heap_other (by omega)).trans hk3⟩⟩
          rw [at2 hl3, hrec]; rfl
        | ret =>
          obtain ⟨hk3, hl3, hi3⟩ := hp
          have hr := run_endRound (P := P) (some .ret) hl3
          refine ⟨_, _, hr, .inr ⟨rfl, hputx _ _ _ hi3 hl3 rfl, ?_, (World.putObj_heap_other (by omega)).trans hk3⟩⟩
          rw [at2 hl3, hrec]; rfl
        | exit id => exact hp.elim
        | goto t => exact hp.elim
        | panic ch => exact hp.elim
        | outgrown => exact hp.elim
      | exit id => exact hp.elim
      | goto t => exact hp.elim
      | ret => exact hp.elim
      | panic ch => exact hp.elim
      | outgrown => exact hp.elim
    · rintro e W2 ⟨⟨v, rfl⟩, (⟨hi, hl, hk⟩ | ⟨hi, hl, hk⟩)⟩
      · exact ⟨none, _, by have := run_endLoop (P := P) hl (by rw [hrec]; simp); rw [hrec] at this; exact this, hdone _ (hput _ _ _ _ hi hl rfl) ((World.putObj_heap_other (by omega)).trans hk)⟩
      · exact ⟨some .ret, _, by have := run_endLoop (P := P) hl (by rw [hrec]; simp); rw [hrec] at this; exact this, wpIn_ret (hstop _ (hputx _ _ _ hi hl rfl) ((World.putObj_heap_other (by omega)).trans hk))⟩
end Go.Proofs.Ytglfcaioapdiaaa.Aw

namespace Go.Proofs.Ytglfcaioapdiaaa.Aw
open Go Go.RowKit
set_option linter.unusedSimpArgs false
set_option linter.unusedVariables false
section
variable {Old : Nat → Prop} {wi : WI Old} {K K' : Nat → Prop} {m m' : Nat → Loc} {S S' : Nat → Prop} {H H' : Hp} {w w' : World}
theorem Rel.putO (hr : Rel Old wi K m S H w) {r : Nat} {o : Obj} (o' : Obj) (ho : w.heap[r]? = some o) (hc : o.isCells = false) (hO : ¬ Old r) (hK : ¬ K r) : Rel Old wi K m S H (w.putObj r o') := by
  have ne : ∀ {k : Nat}, k ≠ r → (w.putObj r o').heap[k]? = w.heap[k]? := fun h => World.putObj_heap_other h
  refine { os := hr.os, tape := hr.tape, output := hr.output, size := by rw [World.putObj_size]; exact hr.size, old := fun k hk => (ne (fun e => hO (e ▸ hk))).trans (hr.old k hk), olt := fun k hk => by rw [World.putObj_size]; exact hr.olt k hk, oown := hr.oown, om := hr.om, kb := fun k hk => by rw [World.putObj_size]; exact hr.kb k hk, inS := hr.inS, pin := hr.pin, pinS := hr.pinS, own := fun i b hl => ?_, inj := hr.inj }
  refine (hr.own i b hl).mono (fun k hk => ne (fun e => hK (e ▸ hk))) (fun hp hb => ne fun e => ?_) (fun _ h => h) (fun _ _ => rfl) (hr.inS i b hl)
  obtain ⟨cur, h1, _⟩ := hb.ex
  rw [e, ho] at h1
  cases h1
  cases hc
theorem Rel.allocO (hr : Rel Old wi K m S H w) (o : Obj) : Rel Old wi K m S H (w.alloc o) := by
  have ne : ∀ {k : Nat}, k < w.heap.size → (w.alloc o).heap[k]? = w.heap[k]? := fun h => Below.heap_alloc _ _ _ h
  have hs : (w.alloc o).heap.size = w.heap.size + 1 := by simp
  exact { os := hr.os, tape := hr.tape, output := hr.output, size := by rw [hs]; have := hr.size; omega, old := fun k hk => (ne (hr.olt k hk)).trans (hr.old k hk), olt := fun k hk => by rw [hs]; have := hr.olt k hk; omega, oown := hr.oown, om := hr.om, kb := fun k hk => by rw [hs]; have := hr.kb k hk; omega, inS := hr.inS, pin := hr.pin, pinS := hr.pinS, own := fun i b hl => (hr.own i b hl).mono (fun k hk => ne (hr.kb k hk)) (fun hp hb => ne hb.lt_size) (fun _ h => h) (fun _ _ => rfl) (hr.inS i b hl), inj := hr.inj }
theorem Rel.chain {Old1 : Nat → Prop} {wi1 : WI Old1} (h0 : Rel Old wi K m S H w) (hw : wi1.w = w) (h1 : Rel Old1 wi1 K' m' S' H' w') (hO : ∀ k, Old k → Old1 k) (hp : ∀ i, wi.pin i = none) : Rel Old wi K' m' S' H' w' := by
  subst hw
  exact { os := h1.os.trans h0.os, tape := h1.tape.trans h0.tape, output := h1.output.trans h0.output, size := Nat.le_trans h0.size h1.size, old := fun k hk => (h1.old k (hO k hk)).trans (h0.old k hk), olt := fun k hk => h1.olt k (hO k hk), oown := fun i b hl hp ho => h1.oown i b hl hp (hO _ ho), om := fun i b hl hp hq => ⟨(h1.om i b hl hp hq).1, (h1.om i b hl hp hq).2.1, fun ho => (h1.om i b hl hp hq).2.2 (hO _ ho)⟩, kb := h1.kb, inS := h1.inS, pin := fun i l h => (by rw [hp i] at h; cases h), pinS := fun i l h => (by rw [hp i] at h; cases h), own := h1.own, inj := h1.inj }
theorem Rel.here (hr : Rel Old wi K m S H w) {Old1 : Nat → Prop} {wi1 : WI Old1} (hw : wi1.w = w) (hlt : ∀ k, Old1 k → k < w.heap.size) (ho : ∀ i b, look H i = some b → (m i).ph = false → ¬ Old1 (m i).blk) (hom : ∀ i b, look H i = some b → (m i).ph = true → (m i).cap = 1 → ¬ Old1 (m i).blk)
    (hp : ∀ i l, wi1.pin i = some l → m i = l ∧ S i) : Rel Old1 wi1 K m S H w := by
  subst hw
  exact { os := rfl, tape := rfl, output := rfl, size := Nat.le_refl _, old := fun _ _ => rfl, olt := hlt, oown := ho, om := fun i b hl hp hq => ⟨(hr.om i b hl hp hq).1, (hr.om i b hl hp hq).2.1, hom i b hl hp hq⟩, kb := hr.kb, inS := hr.inS, pin := fun i l h => (hp i l h).1, pinS := fun i l h => (hp i l h).2, own := hr.own, inj := hr.inj }
end
def pinT (g : Nat) (T : Tp) : Bool := T.all fun p => match p.2 with
  | .v _ => true
  | .ptr id _ _ => Nat.blt id g
  | _ => false
theorem look_in {β : Type} : ∀ {l : List (Nat × β)} {i : Nat} {b : β}, look l i = some b → (i, b) ∈ l
  | [], i, b, h => by simp [look_nil] at h
  | (u, x) :: l, i, b, h => by
    rw [look_cons] at h
    split at h
    · rename_i he; subst he; simp only [Option.some.injEq] at h; subst h; simp
    · exact List.mem_cons_of_mem _ (look_in h)
theorem pin_vr {g : Nat} {T0 : Tp} (hp : pinT g T0 = true) {t : Nat} {v : AV} (hl : look T0 t = some v) {K K' : Nat → Prop} {w w' : World} {m m' : Nat → Loc} {S S' : Nat → Prop} {x : Value} (h : VR K w m S v x) (hm : ∀ i, i < g → m' i = m i) (hS : ∀ i, i < g → S' i) : VR K' w' m' S' v x := by
  have := List.all_eq_true.1 hp _ (look_in hl)
  cases v <;> simp only [Bool.false_eq_true] at this
  · cases h; exact .v _ _
  · rename_i id row col
    have hlt : id < g := by simpa [Nat.blt_eq] using this
    cases h with
    | ptr _ _ _ _ o hs ho => rw [← hm _ hlt]; exact .ptr _ _ _ _ o (hS _ hlt) (by rw [hm _ hlt]; exact ho)
def BackIt (P : Program) (gf : FuncId) : Prop := ∀ (l B len : Nat) (xs : Nat → Int) (J : Nat → World → Prop) (Jx : World → Prop), len ≤ 1048576 →
  (∀ k W, k ≤ len → J k W → ∃ ad c, W.cell? ⟨B, 0, none⟩ = some (.slice ad len c) ∧ (0 < len → ∃ sb so, ad = some ⟨sb, so, none⟩ ∧ ∀ j, j < len → W.cell? ⟨sb, so + j, none⟩ = some (.int .i64 (xs j)))) →
  (∀ k W, J k W → k < len → YieldAt (FW none) 0 P l #[.int .i64 ((len : Int) - 1 - k), .int .i64 (xs (len - 1 - k))] W fun e W' =>
      (e = .returned (.bool true) ∧ J (k + 1) W') ∨ (e = .returned (.bool false) ∧ Jx W')) →
  ∀ W, J 0 W → CallsIn (FW none) 0 P gf #[.func (.yield l) #[] #[], .pointer (some ⟨B, 0, none⟩)] W fun e W' => (∃ v, e = .returned v) ∧ (J len W' ∨ Jx W')
def RdQ (P : Program) (rs : List ResultVar) (v : AV) (U : Hp) (kk g : Nat) (T0 : Tp) (ok : Prop) (st : Hp × Nat) : Exit → Tp → Hp → Nat → Prop
  | .normal, T', H', _ => ok ∧ ∃ ρ, Sub g T' H' ρ [] st.1 st.2
  | .ret, _, H', _ => FinOk P rs v U kk T0 H'
  | _, _, _, _ => False
def NoQ (G : Tp → Hp → Nat → Prop) : Exit → Tp → Hp → Nat → Prop
  | .normal, T', H', n' => G T' H' n'
  | _, _, _, _ => False
section
variable {P : Program} {N gg n len : Nat} {w0 : World} {hgl : Gl w0} {K : Nat → Prop} {m : Nat → Loc} {H : Hp} {w : World} {T T0 : Tp} {a : Act} {rs : List ResultVar} {v : AV} {U : Hp} {kk : Nat}
theorem wp_back {gf bx sid p1 p2 ty1 ty2 : Nat} {pl1 : Bool} {g : Operand} {assign body : Code} {Q : Exit → Act → World → Prop} {rows : List (List AV)} (xs : Nat → Int) (st : Nat → Hp × Nat) (kmax : Nat)
    (hr : Rel (fun i => i < w0.heap.size) (wi0 w0 hgl) K m (fun i => i < n) H w) (ht : TRel K w m (fun i => i < n) N T a)
    (hg : evalA T g = some (.fn gf [.ptr bx 0 0])) (hgo : goFn P gf = true) (hit : BackIt P gf) (hst : H = (st 0).1 ∧ n = (st 0).2) (hT0 : ∀ t v, look T0 t = some v → look T t = some v) (hpin : pinT gg T0 = true) (hgg : ∀ k, k ≤ len → gg ≤ (st k).2) (hbx : bx < gg) (hlen : len ≤ 1048576)
    (hom : ∀ k, k ≤ len → (st k).1.all (fun p => !Nat.beq p.2.size 1000003) = true)
    (hB : ∀ k, k ≤ len → look (st k).1 bx = some ⟨ty1, 1, pl1, [[.sl sid 0 len]]⟩ ∧ look (st k).1 sid = some ⟨ty2, 1, true, rows⟩) (hrl : rows.length = len) (hrw : ∀ j, j < len → rows[j]? = some [.v (.int .i64 (xs j))]) (hp1 : p1 < N) (hp2 : p2 < N)
    (hround : ∀ k, k < len → k ≤ kmax → AW P N gg assign (NoQ fun T' H' n' => AW P N gg body (RdQ P rs v U kk gg T0 (k + 1 ≤ kmax) (st (k + 1))) T' H' n') ((p2, .v (.int .i64 (xs (len - 1 - k)))) :: (p1, .v (.int .i64 ((len : Int) - 1 - k))) :: T0) (st k).1 (st k).2)
    (hdone : ∀ (W : World) (K1 : Nat → Prop) (m1 : Nat → Loc), len ≤ kmax → Rel (fun i => i < w0.heap.size) (wi0 w0 hgl) K1 m1 (fun i => i < (st len).2) (st len).1 W → ¬ K1 w.heap.size → TRel K1 W m1 (fun i => i < (st len).2) N T0 { a with defers := [] } → W.heap[w.heap.size]? = some (.deferred (some [])) →
      Q .normal { a with defers := { target := .collected w.heap.size, args := #[] } :: a.defers } W)
    (hstop : ∀ (W : World) (K1 : Nat → Prop) (m1 : Nat → Loc) (H' : Hp) (n' : Nat), FinOk P rs v U kk T0 H' → Rel (fun i => i < w0.heap.size) (wi0 w0 hgl) K1 m1 (fun i => i < n') H' W → ¬ K1 w.heap.size → TRel K1 W m1 (fun i => i < n') N T0 { a with defers := [] } → W.heap[w.heap.size]? = some (.deferred (some [])) →
      Q .ret { a with defers := { target := .collected w.heap.size, args := #[] } :: a.defers } W) :
    (Code.rangeFunc g #[p1, p2] assign body).wpIn (FW none) 0 P Q a w := by
  obtain ⟨rfl, rfl⟩ := hst
  have hfv := ht.eval hg
  generalize hfx : a.eval g = fx at hfv
  obtain ⟨B, hBe, hfx2⟩ : ∃ B, (m bx).blk = B ∧ fx = .func (.func gf) #[] #[.pointer (some ⟨B, 0, none⟩)] := by
    cases hfv with
    | fn _ _ _ ys hl hv =>
      match ys, hl, hv with
      | [y], _, hv =>
        have hy := hv 0 _ y rfl rfl
        cases hy with
        | ptr _ _ _ _ o hs ho =>
          have : o = 0 := by rw [ho]; simp
          subst this
          exact ⟨_, rfl, rfl⟩
  subst hfx2
  have hDlt : w0.heap.size ≤ w.heap.size := hr.size
  -- what stands between two rounds
  let I : Nat → World → Prop := fun k W => k ≤ kmax ∧ ∃ K1 m1, Rel (fun i => i < w0.heap.size) (wi0 w0 hgl) K1 m1 (fun i => i < (st k).2) (st k).1 W ∧ (∀ i, i < gg → m1 i = m i) ∧ ¬ K1 w.heap.size ∧ ¬ K1 (w.heap.size + 1)
  let Ix : World → Prop := fun W => ∃ K1 m1 H' n', FinOk P rs v U kk T0 H' ∧ Rel (fun i => i < w0.heap.size) (wi0 w0 hgl) K1 m1 (fun i => i < n') H' W ∧ (∀ i, i < gg → m1 i = m i ∧ i < n') ∧ ¬ K1 w.heap.size ∧ ¬ K1 (w.heap.size + 1)
  have tr : ∀ {K1 : Nat → Prop} {m1 : Nat → Loc} {n' : Nat} {W : World} (ds : List Deferred), (∀ i, i < gg → m1 i = m i ∧ i < n') → TRel K1 W m1 (fun i => i < n') N T0 { a with defers := [] } := fun ds hm =>
    ⟨rfl, ht.sz, fun t v hl => pin_vr hpin hl (ht.tm t v (hT0 t v hl)) (fun i hi => (hm i hi).1) (fun i hi => (hm i hi).2)⟩
  refine wpIn_back (len := len) (encs := fun k => #[.int .i64 ((len : Int) - 1 - k), .int .i64 (xs (len - 1 - k))]) (I := I) (Ix := Ix) hfx (run_goFn hgo) (fun k => rfl) ?_ ?_ ?_ ?_ ?_ ?_ ?_
  · intro l J Jx W hJI hY h0
    refine hit l B len xs J Jx hlen (fun k W hk hJ => ?_) hY W h0
    obtain ⟨_, K1, m1, r1, hm1, _, _⟩ := hJI k W hJ
    obtain ⟨hb1, hb2⟩ := hB k hk
    obtain ⟨hph, hbr⟩ := (r1.own bx _ hb1).real (r := 0) rfl
    obtain ⟨cur, c1, c2, c3⟩ := hbr.ex
    obtain ⟨x, hx, _, hvx⟩ := (c3 0 _ rfl).2 0 _ rfl
    have hcell : W.cell? ⟨B, 0, none⟩ = some x := by
      rw [← hBe, ← hm1 bx hbx, cell_of_row W _ _ _ _ _ c1]; simpa using hx
    cases hvx with
    | sl0 _ _ _ ad hS => exact ⟨ad, 0, hcell, fun h => absurd h (Nat.lt_irrefl _)⟩
    | sl _ _ _ _ o c hS hp ho hc =>
      have o0 : o = 0 := by rw [ho, Nat.zero_mul]
      subst o0
      refine ⟨_, _, hcell, fun _ => ⟨_, _, rfl, fun j hj => ?_⟩⟩
      obtain ⟨cur2, e1, e2, e3⟩ := ((r1.own sid _ hb2).br hp).ex
      obtain ⟨y, hy, _, hvy⟩ := (e3 j _ (hrw j hj)).2 0 _ rfl
      cases hvy
      rw [cell_of_row W _ _ _ _ _ e1]
      simpa using hy
  · intro o1 o2
    refine ⟨Nat.zero_le _, K, m, (hr.allocO o1).allocO o2, fun _ _ => rfl, fun h => ?_, fun h => ?_⟩
    · have := hr.kb _ h; omega
    · have := hr.kb _ h; omega
  · rintro k W o o' ⟨hkm, K1, m1, r1, hm1, d1, d2⟩ ho hc
    exact ⟨hkm, K1, m1, r1.putO o' ho hc (by omega) d2, hm1, d1, d2⟩
  · rintro W o o' ⟨K1, m1, H', n', f1, r1, hm1, d1, d2⟩ ho hc
    exact ⟨K1, m1, H', n', f1, r1.putO o' ho hc (by omega) d2, hm1, d1, d2⟩
  · rintro k W o hk ⟨hkm, K1, m1, r1, hm1, d1, d2⟩ hD hL hc
    have hsz : ∀ {W : World} {r : Nat} {o : Obj}, W.heap[r]? = some o → r < W.heap.size := fun h => (Array.getElem?_eq_some_iff.1 h).1
    -- a run that begins in the midst: old are the function's old, and the two records
    have begin : ∀ {K1 : Nat → Prop} {m1 : Nat → Loc} {S1 : Nat → Prop} {H1 : Hp} {W : World} {oD oL : Obj}, Rel (fun i => i < w0.heap.size) (wi0 w0 hgl) K1 m1 S1 H1 W → (∀ i, i < gg → m1 i = m i ∧ S1 i) → ¬ K1 w.heap.size → ¬ K1 (w.heap.size + 1) →
        W.heap[w.heap.size]? = some oD → oD.isCells = false → W.heap[w.heap.size + 1]? = some oL → oL.isCells = false →
        ∃ wi1 : WI (fun k => k < w0.heap.size ∨ k = w.heap.size ∨ k = w.heap.size + 1), wi1.w = W ∧ (∀ i l, wi1.pin i = some l → i < gg) ∧ (∀ i, i < gg → wi1.pin i = some (m i)) ∧ Rel _ wi1 K1 m1 S1 H1 W := by
      intro K1 m1 S1 H1 W oD oL r1 hm1 d1 d2 hD hcD hL hcL
      refine ⟨⟨W, fun i => if i < gg then some (m i) else none, r1.gl, fun k hk => .inl (Nat.lt_of_lt_of_le hk hgl.size)⟩, rfl, fun i l h => ?_, fun i hi => if_pos hi, r1.here rfl ?_ ?_ ?_ ?_⟩
      · simp only at h; split at h
        · assumption
        · cases h
      · have := hsz hD; have := hsz hL; have := r1.size
        rintro k (hk | rfl | rfl)
        · exact Nat.lt_of_lt_of_le hk this
        · assumption
        · assumption
      · intro i b hl hp ho
        obtain ⟨cur, c1, _⟩ := ((r1.own i b hl).br hp).ex
        rcases ho with ho | ho | ho
        · exact r1.oown i b hl hp ho
        · rw [ho, hD] at c1; cases c1; cases hcD
        · rw [ho, hL] at c1; cases c1; cases hcL
      · intro i b hl hp hq ho
        obtain ⟨_, g2, g3⟩ := r1.om i b hl hp hq
        rcases ho with ho | ho | ho
        · exact g3 ho
        · rw [ho] at g2; exact d1 g2
        · rw [ho] at g2; exact d2 g2
      · intro i l h
        simp only at h
        split at h
        · rename_i hi
          simp only [Option.some.injEq] at h
          subst h
          exact hm1 i hi
        · cases h
    have hgk : gg ≤ (st k).2 := hgg k (Nat.le_of_lt hk)
    obtain ⟨wi1, w1e, pp1, p2e, q1⟩ := begin r1 (fun i hi => ⟨hm1 i hi, Nat.lt_of_lt_of_le hi hgk⟩) d1 d2 hD rfl hL hc
    have t1 := ((tr (W := W) (K1 := K1) (m1 := m1) (n' := (st k).2) a.defers fun i hi => ⟨hm1 i hi, Nat.lt_of_lt_of_le hi hgk⟩).put (d := some p1) (v := .v (.int .i64 ((len : Int) - 1 - k))) (.v _ _) (by simpa [dOk, Nat.blt_eq] using hp1)).put (d := some p2) (v := .v (.int .i64 (xs (len - 1 - k)))) (.v _ _) (by simpa [dOk, Nat.blt_eq] using hp2)
    have ez : ((({ tmps := a.tmps, defers := [] } : Act).put (some p1) (.int .i64 ((len : Int) - 1 - k))).put (some p2) (.int .i64 (xs (len - 1 - k)))) = { tmps := (#[p1, p2].zip #[.int .i64 ((len : Int) - 1 - k), .int .i64 (xs (len - 1 - k))]).foldl (fun t (p, v) => t.setIfInBounds p v) a.tmps, defers := [] } := by simp [Act.put]
    have hrun := hround k hk hkm _ wi1 K1 m1 _ W pp1 q1 t1 (some (w.heap.size + 1))
    rw [ez] at hrun
    refine wpIn_mono hrun ?_
    rintro e a1 W1 ⟨T1, H1, n1, m2, K2, gk1, hq, r2, t2⟩
    cases e with
    | normal =>
      have hb : AW P N gg body (RdQ P rs v U kk gg T0 (k + 1 ≤ kmax) (st (k + 1))) T1 H1 n1 := hq
      have eL : W1.heap[w.heap.size + 1]? = some o := (r2.old _ (.inr (.inr rfl))).trans (by rw [w1e]; exact hL)
      have eD : W1.heap[w.heap.size]? = some (.deferred (some [])) := (r2.old _ (.inr (.inl rfl))).trans (by rw [w1e]; exact hD)
      have hm2 : ∀ i, i < gg → m2 i = m i ∧ i < n1 := fun i hi => ⟨r2.pin i _ (p2e i hi), r2.pinS i _ (p2e i hi)⟩
      have k1 : ¬ K2 w.heap.size := fun h => d1 (gk1.2 _ h (.inr (.inl rfl)))
      have k2 : ¬ K2 (w.heap.size + 1) := fun h => d2 (gk1.2 _ h (.inr (.inr rfl)))
      have r3 := r1.chain w1e r2 (fun _ h => .inl h) fun _ => rfl
      refine ⟨eL, fun o' hc' => ?_⟩
      have ne : ∀ {j : Nat}, j ≠ w.heap.size + 1 → (W1.putObj (w.heap.size + 1) o').heap[j]? = W1.heap[j]? := fun h => World.putObj_heap_other h
      have r4 := r3.putO o' eL hc (by omega) k2
      have eL4 : (W1.putObj (w.heap.size + 1) o').heap[w.heap.size + 1]? = some o' := World.putObj_heap_same (hsz eL)
      have eD4 : (W1.putObj (w.heap.size + 1) o').heap[w.heap.size]? = some (.deferred (some [])) := (ne (by omega)).trans eD
      obtain ⟨wi2, w2e, p3, p4, q2⟩ := begin r4 hm2 k1 k2 eD4 rfl eL4 hc'
      have t4 : TRel K2 (W1.putObj (w.heap.size + 1) o') m2 (fun i => i < n1) N T1 a1 := t2.mono (fun _ h => h) (fun j hj => ne (fun e => k2 (e ▸ hj))) (fun _ h => h) (fun _ _ => rfl)
      refine wpIn_mono (hb _ wi2 K2 m2 a1 _ p3 q2 t4 (some (w.heap.size + 1))) ?_
      rintro e a3 W3 ⟨T3, H3, n3, m3, K3, gk3, hq3, r5, t5⟩
      have eL5 : W3.heap[w.heap.size + 1]? = some o' := (r5.old _ (.inr (.inr rfl))).trans (by rw [w2e]; exact eL4)
      have eD5 : W3.heap[w.heap.size]? = some (.deferred (some [])) := (r5.old _ (.inr (.inl rfl))).trans (by rw [w2e]; exact eD4)
      have hm5 : ∀ i, i < gg → m3 i = m i ∧ i < n3 := fun i hi => ⟨r5.pin i _ (p4 i hi), r5.pinS i _ (p4 i hi)⟩
      have k3 : ¬ K3 w.heap.size := fun h => k1 (gk3.2 _ h (.inr (.inl rfl)))
      have k4 : ¬ K3 (w.heap.size + 1) := fun h => k2 (gk3.2 _ h (.inr (.inr rfl)))
      cases e with
      | normal =>
        obtain ⟨hkm1, ρ, hs⟩ := hq3
        obtain ⟨s1, _⟩ := weak p3 r5 t5 hs
        refine ⟨eD5, eL5, hkm1, K3, fun i => m3 (ρ i), r4.chain w2e s1 (fun _ h => .inl h) fun _ => rfl, fun i hi => ?_, k3, k4⟩
        simp only [(hs.p i hi).1]
        exact (hm5 i hi).1
      | ret => exact ⟨eD5, eL5, K3, m3, H3, n3, hq3, r4.chain w2e r5 (fun _ h => .inl h) (fun _ => rfl), hm5, k3, k4⟩
      | exit id => exact hq3.elim
      | goto l => exact hq3.elim
      | panic ch => exact hq3.elim
      | outgrown => exact hq3.elim
    | exit id => exact hq.elim
    | goto l => exact hq.elim
    | ret => exact hq.elim
    | panic ch => exact hq.elim
    | outgrown => exact hq.elim
  · rintro W ⟨hkm, K1, m1, r1, hm1, d1, d2⟩ hD
    exact hdone W K1 m1 hkm r1 d1 (tr a.defers fun i hi => ⟨hm1 i hi, Nat.lt_of_lt_of_le hi (hgg len (Nat.le_refl _))⟩) hD
  · rintro W ⟨K1, m1, H', n', f1, r1, hm1, d1, d2⟩ hD
    exact hstop W K1 m1 H' n' f1 r1 d1 (tr a.defers hm1) hD
end
end Go.Proofs.Ytglfcaioapdiaaa.Aw

namespace Go.Proofs.Ytglfcaioapdiaaa.Aw
open Go Go.RowKit
set_option linter.unusedSimpArgs false
set_option linter.unusedVariables false
def stB (o : Oper) : Bool := match o.op with
  | .store _ _ _ => true
  | _ => false
theorem exec_store {P : Program} {o : Oper} (h : stB o = true) (ρ : Operand → Value) (w : World) : (∃ w', (execOp ρ o).run P w = .ok .skip w') ∨ ∃ x w', (execOp ρ o).run P w = .halt x w' := by
  unfold stB at h
  cases ho : o.op <;> rw [ho] at h <;> first | (simp at h; done) | skip
  rename_i t a x
  simp only [execOp, ho, Sem.run_bind]
  cases hr : (Instr.storeAt t (ρ a) (ρ x)).run P w with
  | ok v w' => left; exact ⟨w', rfl⟩
  | halt y w' => right; exact ⟨y, w', rfl⟩
theorem wpListIn_defers {P : Program} {rr : Option Nat} {k : Nat} {all : Array Oper} {Q : Exit → Act → World → Prop} (ds : List Deferred) : ∀ (l : List Oper), l.all stB = true → ∀ (a : Act) (w : World),
    wpListIn (FW rr) k P all (fun e a' w' => Q e { a' with defers := ds } w') l { a with defers := [] } w → wpListIn (FW rr) k P all Q l { a with defers := ds } w
  | [], _, a, w, h => h
  | o :: l, hl, a, w, h => by
    simp only [List.all_cons, Bool.and_eq_true] at hl
    have ih := wpListIn_defers (Q := Q) (k := k) (all := all) (rr := rr) (P := P) ds l hl.2
    have ev : ({ a with defers := [] } : Act).eval = ({ a with defers := ds } : Act).eval := funext fun x => by cases x <;> rfl
    have pt : ∀ (v : Value) (es : List Deferred), ({ a with defers := es } : Act).put o.dst v = { a.put o.dst v with defers := es } := fun v es => by cases hd : o.dst <;> rfl
    have ns : ∀ c, o.op ≠ .defer c := fun c e => by have := hl.1; unfold stB at this; rw [e] at this; cases this
    unfold wpListIn at h ⊢
    by_cases hw : Region.wanted o (yielded all a.tmps) = true
    · rw [if_pos hw] at h ⊢
      unfold Oper.wpIn at h ⊢
      refine ⟨fun _ _ => trivial, ?_⟩
      have h := h.2
      rw [Oper.semAt_eq _ _ _ ns] at h ⊢
      rw [ev] at h
      rcases exec_store (P := P) hl.1 ({ a with defers := ds } : Act).eval w with ⟨w', e⟩ | ⟨x, w', e⟩
      · rw [e] at h ⊢
        simp only [Oper.uponIn] at h ⊢
        rw [pt] at h ⊢
        exact ih _ _ h
      · rw [e] at h ⊢
        cases x <;> simp only [Oper.uponIn] at h ⊢ <;> exact h
    · rw [if_neg hw] at h ⊢
      refine ⟨fun _ _ => trivial, ?_⟩
      have h := h.2
      rw [pt] at h ⊢
      exact ih _ _ h
def RR (w0 : World) (n0 : Nat) (v : AV) (U : Hp) (k : Nat) : Ending → World → Prop := fun e w' => ∃ r m', e = .returned r ∧ NewR n0 (n0 + k) (renA (fun i => i + n0) v) (shH n0 U) w0 r w' m'
abbrev QF := (w0 : World) → Gl w0 → Nat → Exit → Act → World → Prop
def AW1 (P : Program) (N : Nat) (c : Code) (Q : QF) (T : Tp) (H : Hp) (n : Nat) : Prop := ∀ (w0 : World) (hgl : Gl w0) (n0 : Nat) (K : Nat → Prop) (m : Nat → Loc) (a : Act) (w : World),
  Rel (fun i => i < w0.heap.size) (wi0 w0 hgl) K m (fun i => i < n) H w → TRel K w m (fun i => i < n) N T a → c.wpIn (FW none) 0 P (Q w0 hgl n0) a w
def RetOk (P : Program) (N : Nat) (rs : List ResultVar) (v : AV) (U : Hp) (k : Nat) (Q : QF) : Prop := ∀ (w0 : World) (hgl : Gl w0) (n0 : Nat) (K : Nat → Prop) (m : Nat → Loc) (a : Act) (w : World) (T : Tp) (H : Hp) (n : Nat),
  FinOk P rs v U k T H → Rel (fun i => i < w0.heap.size) (wi0 w0 hgl) K m (fun i => i < n) H w → TRel K w m (fun i => i < n) N T a → Q w0 hgl n0 .ret a w
def QThen (P : Program) (y : Code) (Q : QF) : QF := fun w0 hgl n0 => Exit.then (y.wpIn (FW none) 0 P (Q w0 hgl n0)) (Q w0 hgl n0)
section
variable {P : Program} {N n k : Nat} {rs : List ResultVar} {v : AV} {U : Hp} {T : Tp} {H : Hp} {Q : QF}
theorem aw1_seq {x y : Code} (h : AW1 P N x (QThen P y Q) T H n) : AW1 P N (.seq x y) Q T H n := fun w0 hgl n0 K m a w hr ht => wpIn_seq (h w0 hgl n0 K m a w hr ht)
theorem aw1_weak {c : Code} {T' : Tp} {H' : Hp} {n' : Nat} {ρ : Nat → Nat} (hs : Sub 0 T H ρ T' H' n') (h : AW1 P N c Q T' H' n') : AW1 P N c Q T H n := fun w0 hgl n0 K m a w hr ht =>
  let ⟨h1, h2⟩ := weak (fun i l hp => by cases hp) hr ht hs
  h w0 hgl n0 K _ a w h1 h2
theorem retOk_then {y : Code} (h : RetOk P N rs v U k Q) : RetOk P N rs v U k (QThen P y Q) := h
theorem aw1_pre {x y : Code} (hQ : RetOk P N rs v U k Q) (h : ∀ G : Tp → Hp → Nat → Prop, (∀ T H n, AW1 P N y Q T H n → G T H n) → AW P N 0 x (Thn G (Fin P rs v U k)) T H n) : AW1 P N (.seq x y) Q T H n := by
  intro w0 hgl n0 K m a w hr ht
  refine wpIn_seq (wpIn_mono (h (fun T H n => AW1 P N y Q T H n) (fun _ _ _ h => h) _ (wi0 w0 hgl) K m a w (fun _ _ h => by cases h) hr ht none) ?_)
  rintro e a' w' ⟨T', H', n', m', K', _, hq, hr', ht'⟩
  cases e with
  | normal => exact hq w0 hgl n0 K' m' a' w' hr' ht'
  | ret => exact hQ w0 hgl n0 K' m' a' w' T' H' n' hq hr' ht'
  | exit id => exact hq.elim
  | goto l => exact hq.elim
  | panic ch => exact hq.elim
  | outgrown => exact hq.elim
end
section
variable {P : Program} {fn : Func} {v : AV} {U : Hp} {k : Nat}
def QEnd (P : Program) (fn : Func) (v : AV) (U : Hp) (k : Nat) : QF := fun w0 _ n0 => bodyPostM (FW none) 0 P fn (RR w0 n0 v U k)
theorem qend_ret (hU : fullB U k = true) : RetOk P fn.ntmps fn.results.toList v U k (QEnd P fn v U k) := by
  intro w0 hgl n0 K m a w T H n hf hr ht
  obtain ⟨h1, x, h2, h3⟩ := fin_new (n := n0) hU hf hr ht
  show LeavesInM (FW none) 0 P fn a.tmps _ a.defers .returning w
  rw [h1]
  exact ⟨x, h2, h3⟩
theorem qend_mark (hU : fullB U k = true) {w0 : World} {hgl : Gl w0} {n0 D n : Nat} {K : Nat → Prop} {m : Nat → Loc} {a : Act} {w : World} {T : Tp} {H : Hp} (hD : w0.heap.size ≤ D) (hk : ¬ K D) (hm : w.heap[D]? = some (.deferred (some []))) (hf : FinOk P fn.results.toList v U k T H)
    (hr : Rel (fun i => i < w0.heap.size) (wi0 w0 hgl) K m (fun i => i < n) H w) (ht : TRel K w m (fun i => i < n) fn.ntmps T { a with defers := [] }) : QEnd P fn v U k w0 hgl n0 .ret { a with defers := [{ target := .collected D, args := #[] }] } w := by
  have hr2 := hr.putO (.deferred none) hm rfl (by omega) hk
  have ht2 : TRel K (w.putObj D (.deferred none)) m (fun i => i < n) fn.ntmps T { a with defers := [] } := ht.mono (fun _ h => h) (fun j hj => World.putObj_heap_other (fun e => hk (e ▸ hj))) (fun _ h => h) (fun _ _ => rfl)
  obtain ⟨_, x, h2, h3⟩ := fin_new (n := n0) hU hf hr2 ht2
  exact ⟨by simp, .inl ⟨D, _, rfl, run_takeDeferred hm, ⟨x, h2, h3⟩⟩⟩
theorem RO.of1 {f : FuncId} {c : Code} {args : List AV} (n : Nat) (hf : P.funcs[f]? = some fn) (hb : fn.body = some c) (hg : goFn P f = true) (hN : args.length ≤ fn.ntmps) (hU : fullB U k = true)
    (h : AW1 P fn.ntmps c (QEnd P fn v U k) (idx 0 args) [] 0) : RO P f args n (renA (fun i => i + n) v) (shH n U) (n + k) := by
  have hU' := hU
  simp only [fullB, Bool.and_eq_true] at hU'
  obtain ⟨hU1, hU2⟩ := hU'
  have hids : ∀ i b, look (shH n U) i = some b → n ≤ i ∧ i < n + k := fun i b hl => by
    obtain ⟨j, b0, h1, h2, _⟩ := look_shH hl
    have := look_all hU1 h2
    simp only [Nat.blt_eq, Bool.and_eq_true] at this
    omega
  refine ⟨hg, by omega, hids, fun K w xs hgl hk hv => ?_⟩
  refine callsIn_wide.1 (callsIn_of_wp_marks (F := Fence.wide) (n := 0) hf hb trivial (h w hgl n (fun i => i < w.heap.size) (fun _ => ⟨0, 0, 0, false⟩) _ w ?_ ?_))
  · exact { pin := fun _ _ h => (by cases h), pinS := fun _ _ h => (by cases h), os := rfl, tape := rfl, output := rfl, size := Nat.le_refl _, old := fun _ _ => rfl, olt := fun _ h => h, oown := fun i b hl => by simp [look_nil] at hl, om := fun i b hl => by simp [look_nil] at hl, kb := fun _ h => h, inS := fun i b hl => by simp [look_nil] at hl, own := fun i b hl => by simp [look_nil] at hl, inj := fun i j bi bj hl => by simp [look_nil] at hl }
  · have hsz : xs.length = args.length := hv.1
    refine ⟨rfl, by simp; omega, fun t av hl => ?_⟩
    obtain ⟨_, h2⟩ := look_idx args 0 t av hl
    rw [Nat.sub_zero] at h2
    have hlt : t < xs.length := by rw [hsz]; exact (List.getElem?_eq_some_iff.1 h2).1
    have hx := List.getElem?_eq_getElem hlt
    have := hv.2 t av _ h2 hx
    have he : (xs.toArray ++ Array.replicate (fn.ntmps - xs.toArray.size) undef).getD t undef = xs[t] := by
      rw [Array.getD_eq_getD_getElem?, Array.getElem?_append_left (by simpa using hlt)]
      simp [hlt]
    show VR _ _ _ _ av ((xs.toArray ++ Array.replicate (fn.ntmps - xs.toArray.size) undef).getD t undef)
    rw [he]
    exact this.mono hk (fun _ _ => rfl) (fun _ h => h.elim) (fun _ h => h.elim)
theorem qend_ret' {N : Nat} {rs : List ResultVar} (hN : fn.ntmps = N) (hrs : fn.results.toList = rs) (hU : fullB U k = true) : RetOk P N rs v U k (QEnd P fn v U k) := by subst hN hrs; exact qend_ret hU
theorem RO.ofm1 {N m : Nat} {f : FuncId} {c : Code} {args : List AV} (v : AV) (U : Hp) (k : Nat) {v' : AV} {U' : Hp} (hf : P.funcs[f]? = some fn) (hN : fn.ntmps = N) (hb : fn.body = some c) (hg : goFn P f = true) (hl : Nat.ble args.length N = true)
    (hv : renA (fun i => i + m) v = v') (hu : shH m U = U') (hU : fullB U k = true) (h : AW1 P N c (QEnd P fn v U k) (idx 0 args) [] 0) : RO P f args m v' U' (m + k) := by
  subst hN hv hu
  exact RO.of1 m hf hb hg (by simpa using hl) hU h
theorem aw1_back {N gg n len id rid : Nat} {rs : List ResultVar} {H : Hp} {T T0 : Tp} {gf bx sid p1 p2 ty1 ty2 : Nat} {pl1 : Bool} {g : Operand} {assign body : Code} {l : List Oper} {rows : List (List AV)} (xs : Nat → Int) (st : Nat → Hp × Nat) (kmax : Nat) (hNN : fn.ntmps = N) (hrs : fn.results.toList = rs) (hU : fullB U k = true)
    (hg : evalA T g = some (.fn gf [.ptr bx 0 0])) (hgo : goFn P gf = true) (hit : BackIt P gf) (hst : H = (st 0).1 ∧ n = (st 0).2) (hT0 : ∀ t v, look T0 t = some v → look T t = some v) (hpin : pinT gg T0 = true) (hgg : ∀ k, k ≤ len → gg ≤ (st k).2) (hbx : bx < gg) (hlen : len ≤ 1048576)
    (hom : ∀ k, k ≤ len → (st k).1.all (fun p => !Nat.beq p.2.size 1000003) = true)
    (hB : ∀ k, k ≤ len → look (st k).1 bx = some ⟨ty1, 1, pl1, [[.sl sid 0 len]]⟩ ∧ look (st k).1 sid = some ⟨ty2, 1, true, rows⟩) (hrl : rows.length = len) (hrw : ∀ j, j < len → rows[j]? = some [.v (.int .i64 (xs j))]) (hp1 : p1 < N) (hp2 : p2 < N)
    (hround : ∀ i, i < len → i ≤ kmax → AW P N gg assign (NoQ fun T' H' n' => AW P N gg body (RdQ P rs v U k gg T0 (i + 1 ≤ kmax) (st (i + 1))) T' H' n') ((p2, .v (.int .i64 (xs (len - 1 - i)))) :: (p1, .v (.int .i64 ((len : Int) - 1 - i))) :: T0) (st i).1 (st i).2)
    (hl : l.all stB = true) (hend : len ≤ kmax → SQ P N l.toArray l (fun T' H' _ => FinOk P rs v U k T' H') T0 (st len).1 (st len).2) :
    AW1 P N (.block id (.rangeFunc g #[p1, p2] assign body)) (QThen P (.seq (.region rid l.toArray false) .ret) (QEnd P fn v U k)) T H n := by
  subst hNN hrs
  intro w0 hgl n0 K m a w hr ht
  have hd := ht.dn
  refine wpIn_block (wp_back (rs := fn.results.toList) (v := v) (U := U) (kk := k) xs st kmax hr ht hg hgo hit hst hT0 hpin hgg hbx hlen hom hB hrl hrw hp1 hp2 hround ?_ ?_)
  · intro W K1 m1 hkm r1 d1 t1 hm
    rw [hd]
    show Code.wpIn _ _ _ _ _ _ _
    refine wpIn_seq (wpIn_region_lit (wpListIn_defers _ l hl a W ?_))
    have hlt : w.heap.size < W.heap.size := (Array.getElem?_eq_some_iff.1 hm).1
    let wi1 : WI (fun j => j < w0.heap.size ∨ j = w.heap.size) := ⟨W, fun _ => none, r1.gl, fun j hj => .inl (Nat.lt_of_lt_of_le hj hgl.size)⟩
    have q1 : Rel (fun j => j < w0.heap.size ∨ j = w.heap.size) wi1 K1 m1 (fun i => i < (st len).2) (st len).1 W := r1.here rfl
      (fun j hj => by rcases hj with hj | rfl; · exact Nat.lt_of_lt_of_le hj r1.size
                      · exact hlt)
      (fun i b hb hp ho => by
        rcases ho with ho | ho
        · exact r1.oown i b hb hp ho
        · obtain ⟨cur, c1, _⟩ := ((r1.own i b hb).br hp).ex
          rw [ho, hm] at c1; cases c1)
      (fun i b hb hp hq ho => by
        obtain ⟨_, g2, g3⟩ := r1.om i b hb hp hq
        rcases ho with ho | ho
        · exact g3 ho
        · rw [ho] at g2; exact d1 g2)
      (fun i l h => by cases h)
    refine hend hkm _ wi1 K1 m1 _ W _ q1 t1 (fun T' H' n' m' K' a' w' gk hf r2 t2 => ?_) none
    have eD : w'.heap[w.heap.size]? = some (.deferred (some [])) := (r2.old _ (.inr rfl)).trans hm
    have k2 : ¬ K' w.heap.size := fun h => d1 (gk.2 _ h (.inr rfl))
    exact wpIn_ret (qend_mark (a := a') hU hr.size k2 eD hf (r1.chain rfl r2 (fun _ h => .inl h) (fun _ => rfl)) ⟨rfl, t2.sz, t2.tm⟩)
  · intro W K1 m1 H' n' hf r1 d1 t1 hm
    rw [hd]
    exact qend_mark (a := a) hU hr.size d1 hm hf r1 t1
end
end Go.Proofs.Ytglfcaioapdiaaa.Aw

namespace Go.Proofs.Ytglfcaioapdiaaa.Bw
open Go Go.RowKit Go.Shelf
set_option linter.unusedSimpArgs false
set_option linter.unusedVariables false
attribute [local go_sem] Oper.semAt_some
set_option maxRecDepth 100000 in
set_option maxHeartbeats 2000000 in
theorem back1_in (F : Fence) (n : Nat) (hf : F.fn 109) (hro : F.round = none) (hn : 1 ≤ n) (l B len : Nat) (hlen : len ≤ 1048576) (xs : Nat → Int) (J : Nat → World → Prop) (Jx : World → Prop)
    (hread : ∀ k W, k ≤ len → J k W → ∃ ad c, W.cell? ⟨B, 0, none⟩ = some (.slice ad len c) ∧ (0 < len → ∃ sb so, ad = some ⟨sb, so, none⟩ ∧ ∀ j, j < len → W.cell? ⟨sb, so + j, none⟩ = some (.int .i64 (xs j))))
    (hY : ∀ k W, J k W → k < len → YieldAt F (n - 1) Try.prog l #[.int .i64 ((len : Int) - 1 - k), .int .i64 (xs (len - 1 - k))] W fun e W' =>
      (e = .returned (.bool true) ∧ J (k + 1) W') ∨ (e = .returned (.bool false) ∧ Jx W'))
    (W : World) (h0 : J 0 W) :
    CallsIn F n Try.prog 109 #[.func (.yield l) #[] #[], .pointer (some ⟨B, 0, none⟩)] W fun e W' => (∃ v, e = .returned v) ∧ (J len W' ∨ Jx W') := by
  refine callsIn_of_wp Try.func109 rfl hf ?_ hro
  simp only [Try.ntmps109, List.size_toArray, List.length_cons, List.length_nil, Nat.reduceAdd, Nat.reduceSub, Array.replicate_succ, Array.replicate_zero, List.push_toArray, List.append_toArray, List.nil_append, List.cons_append]
  obtain ⟨ad, c, hB, _⟩ := hread 0 W (Nat.zero_le _) h0
  gi_wp2
  gi_loopw [3] (fun i wr => ∃ k : Nat, k ≤ len ∧ i = .int .i64 ((len : Int) - 1 - k) ∧ J k wr)
    (fun i _ => (intOf i + 1).toNat)
  case atStart => exact ⟨0, Nat.zero_le _, by simp; try rw [IntWalk.i64_in _ (by omega)], h0⟩
  case round =>
    obtain ⟨k, hk, rfl, hJs⟩ := hrel
    obtain ⟨ad', c', hB', hel⟩ := hread k wr hk hJs
    by_cases hlt : k < len
    · obtain ⟨fn, tmps, assign, body, hy, hR⟩ := hY _ wr hJs hlt
      obtain ⟨sb, so, rfl, hc⟩ := hel (by omega)
      have hcx := hc (len - 1 - k) (by omega)
      have e : ((len : Int) - 1 - k).toNat = len - 1 - k := by omega
      have b1 : decide ((0 : Int) ≤ (len : Int) - 1 - k) = true := by simp; omega
      gi_wp2
      refine hR.mono ?_
      rintro e W3 (⟨rfl, hJ3⟩ | ⟨rfl, hJx3⟩)
      · gi_wp2
        go_roundw
        case rel => exact ⟨k + 1, by omega, by simp; omega, hJ3⟩
        case measure => simp [intOf]; omega
      · gi_wp2
        refine bodyPost_ret (results_none rfl _ _ _) rfl ?_
        exact ⟨⟨_, rfl⟩, .inr hJx3⟩
    · obtain rfl : k = len := by omega
      have b1 : decide ((0 : Int) ≤ (k : Int) - 1 - k) = false := by simp; omega
      gi_wp2
      go_end0
      exact ⟨⟨_, rfl⟩, .inl hJs⟩
theorem back_it : Aw.BackIt Try.prog 109 := fun l B len xs J Jx hlen hread hY W h0 =>
  Aw.callsIn_FW (callsIn_wide.1 (back1_in (Aw.FW none) 1 trivial rfl (Nat.le_refl _) l B len hlen xs J Jx hread hY W h0))
end Go.Proofs.Ytglfcaioapdiaaa.Bw

namespace Go.Proofs.Ytglfcaioapdiaaa.So
open Go.Shelf Go.Sort Go.RowKit Go.Proofs
def laysSort_ren : Go.Shelf.Ren := ⟨fun | 53 => 71 | 64 => 108 | 63 => 107 | 78 => 128 | 79 => 129 | 70 => 119 | 71 => 120 | 72 => 121 | 73 => 122 | 74 => 123 | 75 => 124 | 59 => 125 | 76 => 126 | 77 => 127 | 88 => 133 | 89 => 134 | 90 => 135 | 91 => 136 | 92 => 137 | 68 => 112 | 96 => 139 | n => n, fun | 22 => 26 | 23 => 2 | 3 => 3 | 51 => 127 | 0 => 0 | 67 => 151 | 69 => 131 | 4 => 4 | 61 => 143 | 60 => 142 | 44 => 148 | 5 => 5 | 9 => 9 | 75 => 156 | 79 => 160 | 83 => 162 | 84 => 163 | n => n, fun | n => n⟩
theorem laysSort : Go.Proofs.SlLaysN.n53 Try.prog laysSort_ren := {
  mixed := by kernel_rfl
  f53 := ⟨Try.f71.name, by decide, Try.func71.trans (congrArg some (by kernel_rfl))⟩
  f59 := ⟨Try.f125.name, by decide, Try.func125.trans (congrArg some (by kernel_rfl))⟩
  f63 := ⟨Try.f107.name, by decide, Try.func107.trans (congrArg some (by kernel_rfl))⟩
  f64 := Try.func108.trans (congrArg some (by kernel_rfl))
  f68 := ⟨Try.f112.name, by decide, Try.func112.trans (congrArg some (by kernel_rfl))⟩
  f70 := ⟨Try.f119.name, by decide, Try.func119.trans (congrArg some (by kernel_rfl))⟩
  f71 := ⟨Try.f120.name, by decide, Try.func120.trans (congrArg some (by kernel_rfl))⟩
  f72 := ⟨Try.f121.name, by decide, Try.func121.trans (congrArg some (by kernel_rfl))⟩
  f73 := ⟨Try.f122.name, by decide, Try.func122.trans (congrArg some (by kernel_rfl))⟩
  f74 := ⟨Try.f123.name, by decide, Try.func123.trans (congrArg some (by kernel_rfl))⟩
  f75 := ⟨Try.f124.name, by decide, Try.func124.trans (congrArg some (by kernel_rfl))⟩
  f76 := ⟨Try.f126.name, by decide, Try.func126.trans (congrArg some (by kernel_rfl))⟩
  f77 := ⟨Try.f127.name, by decide, Try.func127.trans (congrArg some (by kernel_rfl))⟩
  f78 := Try.func128.trans (congrArg some (by kernel_rfl))
  f79 := Try.func129.trans (congrArg some (by kernel_rfl))
  f88 := ⟨Try.f133.name, by decide, Try.func133.trans (congrArg some (by kernel_rfl))⟩
  f89 := Try.func134.trans (congrArg some (by kernel_rfl))
  f90 := Try.func135.trans (congrArg some (by kernel_rfl))
  f91 := ⟨Try.f136.name, by decide, Try.func136.trans (congrArg some (by kernel_rfl))⟩
  f92 := ⟨Try.f137.name, by decide, Try.func137.trans (congrArg some (by kernel_rfl))⟩
  f96 := ⟨Try.f139.name, by decide, Try.func139.trans (congrArg some (by kernel_rfl))⟩
  t0 := Try.underlying0
  a0 := Try.isAgg0
  z0 := Try.sizeOf0
  v0 := Try.zeroValue0
  t3 := Try.underlying3
  a3 := Try.isAgg3
  z3 := Try.sizeOf3
  v3 := Try.zeroValue3
  t4 := Try.underlying4
  a4 := Try.isAgg4
  z4 := Try.sizeOf4
  v4 := Try.zeroValue4
  t5 := Try.underlying5
  a5 := Try.isAgg5
  z5 := Try.sizeOf5
  v5 := Try.zeroValue5
  t9 := Try.underlying9
  a9 := Try.isAgg9
  z9 := Try.sizeOf9
  v9 := Try.zeroValue9
  t22 := Try.underlying26
  a22 := Try.isAgg26
  z22 := Try.sizeOf26
  v22 := Try.zeroValue26
  t23 := Try.underlying2
  a23 := Try.isAgg2
  z23 := Try.sizeOf2
  v23 := Try.zeroValue2
  t44 := Try.underlying148
  a44 := Try.isAgg148
  z44 := Try.sizeOf148
  v44 := Try.zeroValue148
  t51 := Try.underlying127
  a51 := Try.isAgg127
  z51 := Try.sizeOf127
  v51 := Try.zeroValue127
  t60 := Try.underlying142
  a60 := Try.isAgg142
  z60 := Try.sizeOf142
  v60 := Try.zeroValue142
  t61 := Try.underlying143
  a61 := Try.isAgg143
  z61 := Try.sizeOf143
  v61 := Try.zeroValue143
  t67 := Try.underlying151
  a67 := Try.isAgg151
  z67 := Try.sizeOf151
  v67 := Try.zeroValue151
  t69 := Try.underlying131
  a69 := Try.isAgg131
  z69 := Try.sizeOf131
  v69 := Try.zeroValue131
  t75 := Try.underlying156
  a75 := Try.isAgg156
  z75 := Try.sizeOf156
  v75 := Try.zeroValue156
  t79 := Try.underlying160
  a79 := Try.isAgg160
  z79 := Try.sizeOf160
  v79 := Try.zeroValue160
  t83 := Try.underlying162
  a83 := Try.isAgg162
  z83 := Try.sizeOf162
  v83 := Try.zeroValue162
  t84 := Try.underlying163
  a84 := Try.isAgg163
  z84 := Try.sizeOf163
  v84 := Try.zeroValue163 }
theorem slices_Sort_int (blk off cap : Nat) (zs : List Int) (w : World) (hH : Holds (Value.int .i64) w blk off zs.toArray) (hblk : blk < w.heap.size) (hsz : zs.length < 4611686018427387904) :
    Calls Try.prog 71 #[.slice (some ⟨blk, off, none⟩) zs.length cap] w fun e w' =>
      e = .returned (.tuple #[]) ∧ ∃ n os, w' = grow (putRow (Value.int .i64) (Sort.ahead w n) blk off (zs.mergeSort fun x y => decide (x ≤ y)).toArray) os := AnyG.slices_Sort_int laysSort blk off cap zs w hH hblk hsz
theorem slices_Sort_int_none (p : Option Addr) (cap : Nat) (w : World) :
    Calls Try.prog 71 #[.slice p 0 cap] w fun e w' => e = .returned (.tuple #[]) ∧ w' = w := AnyG.slices_Sort_int_none laysSort p cap w
end Go.Proofs.Ytglfcaioapdiaaa.So

namespace Go.Proofs.Ytglfcaioapdiaaa.Bk
open Go Go.RowKit Go.Proofs.Ytglfcaioapdiaaa.Aw
set_option linter.unusedSimpArgs false
set_option linter.unusedVariables false
attribute [local irreducible] AW SQ Step RO RC DE Thn InB
structure Ln where
  a : Int
  b : Int
  o : Int
  c : Int
def lnL (l : Ln) : List AV := [.v (.int .i64 l.a), .v (.int .i64 l.b), .v (.int .i64 l.o), .v (.int .i64 l.c)]
theorem lnL_eq (l : Ln) : lnL l = [.v (.int .i64 l.a), .v (.int .i64 l.b), .v (.int .i64 l.o), .v (.int .i64 l.c)] := rfl
def lnz : Ln := ⟨0, 0, 0, 0⟩
def inB (n lo hi : Int) : Bool := decide (lo ≤ n) && decide (n ≤ hi)
def bkL (n : Int) (ls : List Ln) : List AV := [.v (.int .i64 n), .dsl 4 (ls.map lnL)]
def i64c (x y : Int) : Int := if x < y then -1 else if y < x then 1 else 0
set_option maxHeartbeats 4000000 in
theorem within_ro (n lo hi : Int) (k : Nat) : RO Try.prog 103 [.v (.int .i64 n), .v (.int .i64 lo), .v (.int .i64 hi)] k (.v (.bool (inB n lo hi))) [] k := by
  refine RO.ofv' Try.func103 Try.ntmps103 rfl (goFn_of Try.func103 rfl (by kernel_rfl)) rfl rfl ?_
  ((repeat' (first
    | (show SQ _ _ _ _ _ _ _ _; first | apply sq_nil | (apply q_move; exact rfl; exact rfl) | (apply q_assign; exact rfl; exact rfl) | (apply q_pick_t; (iterate 3 exact rfl); exact (by first | assumption | exact rfl)) | (apply q_pick_f; (iterate 3 exact rfl); exact (by first | assumption | exact rfl)) | (apply q_leq; iterate 3 exact rfl) | (apply q_geq; iterate 3 exact rfl) | (apply q_g; (iterate 3 exact rfl); exact (by assumption)) | (apply q_s; (iterate 3 exact rfl); exact (by assumption); exact rfl))
    | (show SQ _ _ _ _ _ _ _ _; apply q_gs; (iterate 4 exact rfl); all_goals intro h)
    | (show AW _ _ _ _ _ _ _ _; first | refine aw_region ?_ | (refine aw_seqk ?_; intro K hK) | refine aw_ret ?_)
    | refine thn_n ?_
    | (refine hK _ _ _ ?_; clear hK K))); all_goals (repeat (clear hK K)))
  all_goals refine fin_r (fin_b rfl ?_)
  all_goals simp_all [inB]
  all_goals (intros; omega)
set_option maxHeartbeats 4000000 in
theorem isNaN_ro (n : Int) (k : Nat) : RO Try.prog 112 [.v (.int .i64 n)] k (.v (.bool false)) [] k := by
  refine RO.ofv' Try.func112 Try.ntmps112 rfl (goFn_of Try.func112 rfl (by kernel_rfl)) rfl rfl ?_
  ((repeat' (first
    | (show SQ _ _ _ _ _ _ _ _; first | apply sq_nil | (apply q_move; exact rfl; exact rfl) | (apply q_assign; exact rfl; exact rfl) | (apply q_neq; iterate 3 exact rfl))
    | (show AW _ _ _ _ _ _ _ _; first | refine aw_region ?_ | (refine aw_seqk ?_; intro K hK) | refine aw_ret ?_)
    | refine thn_n ?_
    | (refine hK _ _ _ ?_; clear hK K))); all_goals (repeat (clear hK K)))
  all_goals refine fin_r (fin_b rfl ?_)
  all_goals simp
set_option maxHeartbeats 4000000 in
theorem Compare_ro (x y : Int) (k : Nat) : RO Try.prog 78 [.v (.int .i64 x), .v (.int .i64 y)] k (.v (.int .i64 (i64c x y))) [] k := by
  refine RO.ofv' Try.func78 Try.ntmps78 rfl (goFn_of Try.func78 rfl (by kernel_rfl)) rfl rfl ?_
  ((repeat' (first
    | (show SQ _ _ _ _ _ _ _ _; first | apply sq_nil | (apply q_move; exact rfl; exact rfl) | (apply q_assign; exact rfl; exact rfl) | (apply q_lss; iterate 3 exact rfl) | (apply q_gtr; iterate 3 exact rfl))
    | (show SQ _ _ _ _ _ _ _ _; (first | (apply q_callU; (iterate 3 exact rfl); exact FzL.of rfl; exact isNaN_ro _ _)); (try simp only [put, rowsOf, plR, selE, ovr, setH, del, cellsA, splice, isV, spq, if_true, if_false]))
    | (show AW _ _ _ _ _ _ _ _; first | refine aw_region ?_ | (refine aw_seqk ?_; intro K hK) | (apply aw_cond_f; exact rfl; exact rfl) | refine aw_ret ?_ | refine aw_skip ?_ | (apply aw_ite; exact rfl; all_goals intro h))
    | refine thn_n ?_
    | (refine hK _ _ _ ?_; clear hK K)
    | refine thn_r ?_)); all_goals (repeat (clear hK K)))
  all_goals refine fin_r (fin_i rfl ?_)
  all_goals simp_all [i64c]
  all_goals (intros; omega)
set_option maxHeartbeats 4000000 in
theorem Or_ro (x y : Int) (k : Nat) : RO Try.prog 110 [.dsl 1 [[.v (.int .i64 x)], [.v (.int .i64 y)]]] k (.v (.int .i64 (if x = 0 then y else x))) [] k := by
  refine RO.ofv' Try.func110 Try.ntmps110 rfl (goFn_of Try.func110 rfl (by kernel_rfl)) rfl rfl ?_
  ((repeat' (first
    | (show SQ _ _ _ _ _ _ _ _; first | apply sq_nil | (apply q_move; exact rfl; exact rfl) | (apply q_assign; exact rfl; exact rfl) | (apply q_lend; exact rfl; exact rfl; exact (ty rfl); exact rfl))
    | (show AW _ _ _ _ _ _ _ _; first | refine aw_region ?_ | (refine aw_seqk ?_; intro K hK) | refine aw_block ?_)
    | refine thn_n ?_
    | (refine hK _ _ _ ?_; clear hK K))); all_goals (repeat (clear hK K)))
  refine aw_loop (ρ := id) (ι := Nat) (fun i => ([(8, .v (.int .i64 i)), (7, .v (.int .i64 2)), (6, .dsl 1 [[.v (.int .i64 x)], [.v (.int .i64 y)]]), (3, .v (.int .i64 0))], [], 0))
    (fun i => i ≤ 2 ∧ (0 < i → x = 0) ∧ (1 < i → y = 0)) (fun i => 2 - i) 0 (by simp) ⟨by (repeat (refine ⟨by first | exact lk_i rfl rfl | exact lk_d rfl rfl, ?_⟩)); exact trivial, by exact trivial, by rfl, by exact pin_0⟩ ?_
  rintro i ⟨hi, h0, h1⟩
  match i, hi with
  | 0, _ =>
    have b2 : decide (((0 : Nat) : Int) < 2) = true := by simp
    ((repeat' (first
    | (show SQ _ _ _ _ _ _ _ _; first | apply sq_nil | (apply q_move; exact rfl; exact rfl) | (apply q_assign; exact rfl; exact rfl) | (apply q_add; iterate 3 exact rfl) | (apply q_neq; iterate 3 exact rfl) | (apply q_lss; iterate 3 exact rfl) | (apply q_ixd; (iterate 3 exact rfl); exact (ty rfl); exact rfl; exact (by first | omega | (simp; done) | (simp; omega)); exact (by first | omega | (simp; done) | (simp; omega)); exact (by first | rfl | assumption)) | (apply q_ld1d; exact rfl; exact rfl; exact (ty rfl); exact rfl; exact rfl))
    | (show AW _ _ _ _ _ _ _ _; first | refine aw_region ?_ | (refine aw_seqk ?_; intro K hK) | refine aw_block ?_ | (apply aw_cond_t; exact rfl; exact rfl) | refine aw_ret ?_ | refine aw_skip ?_ | (apply aw_ite; exact rfl; all_goals intro h))
    | refine thn_n ?_
    | (refine hK _ _ _ ?_; clear hK K)
    | refine thn_r ?_
    | refine inb_n ?_
    | refine inb_r ?_)); all_goals (repeat (clear hK K)))
    all_goals first
      | (refine fin_r (fin_i rfl ?_); simp_all; done)
      | (refine ⟨1, id, ⟨by omega, by simp_all, by simp⟩, by omega, ⟨by (repeat (refine ⟨by first | exact lk_i rfl rfl | exact lk_d rfl rfl, ?_⟩)); exact trivial, by exact trivial, by rfl, by exact pin_0⟩⟩)
  | 1, _ =>
    have b2 : decide (((1 : Nat) : Int) < 2) = true := by simp
    have h0 := h0 (by omega)
    ((repeat' (first
    | (show SQ _ _ _ _ _ _ _ _; first | apply sq_nil | (apply q_move; exact rfl; exact rfl) | (apply q_assign; exact rfl; exact rfl) | (apply q_add; iterate 3 exact rfl) | (apply q_neq; iterate 3 exact rfl) | (apply q_lss; iterate 3 exact rfl) | (apply q_ixd; (iterate 3 exact rfl); exact (ty rfl); exact rfl; exact (by first | omega | (simp; done) | (simp; omega)); exact (by first | omega | (simp; done) | (simp; omega)); exact (by first | rfl | assumption)) | (apply q_ld1d; exact rfl; exact rfl; exact (ty rfl); exact rfl; exact rfl))
    | (show AW _ _ _ _ _ _ _ _; first | refine aw_region ?_ | (refine aw_seqk ?_; intro K hK) | refine aw_block ?_ | (apply aw_cond_t; exact rfl; exact rfl) | refine aw_ret ?_ | refine aw_skip ?_ | (apply aw_ite; exact rfl; all_goals intro h))
    | refine thn_n ?_
    | (refine hK _ _ _ ?_; clear hK K)
    | refine thn_r ?_
    | refine inb_n ?_
    | refine inb_r ?_)); all_goals (repeat (clear hK K)))
    all_goals first
      | (refine fin_r (fin_i rfl ?_); simp_all; done)
      | (refine ⟨2, id, ⟨by omega, by simp_all, by simp_all⟩, by omega, ⟨by (repeat (refine ⟨by first | exact lk_i rfl rfl | exact lk_d rfl rfl, ?_⟩)); exact trivial, by exact trivial, by rfl, by exact pin_0⟩⟩)
  | 2, _ =>
    have b2 : decide (((2 : Nat) : Int) < 2) = false := by simp
    ((repeat' (first
    | (show SQ _ _ _ _ _ _ _ _; first | apply sq_nil | (apply q_move; exact rfl; exact rfl) | (apply q_assign; exact rfl; exact rfl) | (apply q_lss; iterate 3 exact rfl))
    | (show AW _ _ _ _ _ _ _ _; first | refine aw_region ?_ | (refine aw_seqk ?_; intro K hK) | (apply aw_cond_f; exact rfl; exact rfl) | refine aw_ret ?_ | refine aw_exit ?_)
    | refine thn_n ?_
    | (refine hK _ _ _ ?_; clear hK K)
    | refine thn_e ?_
    | refine inb_same ?_
    | (clear hK K; refine hK _ _ _ ?_; clear hK K))); all_goals (repeat (clear hK K)))
    all_goals refine fin_r (fin_i rfl ?_)
    simp_all
end Go.Proofs.Ytglfcaioapdiaaa.Bk

namespace Go.Proofs.Ytglfcaioapdiaaa.Bk
open Go Go.RowKit Go.Proofs.Ytglfcaioapdiaaa.Aw
set_option linter.unusedSimpArgs false
set_option linter.unusedVariables false
attribute [local irreducible] AW SQ Step RO RC DE Thn InB
def inL (x : Int) : List AV := [.v (.int .i64 x)]
theorem inL_eq (x : Int) : inL x = [.v (.int .i64 x)] := rfl
def up (z : Int) (i : Nat) : Int := z + (i : Int)
end Go.Proofs.Ytglfcaioapdiaaa.Bk

namespace Go.Proofs.Ytglfcaioapdiaaa.So
open Go Go.RowKit Go.Proofs.Ytglfcaioapdiaaa.Aw Go.Proofs.Ytglfcaioapdiaaa.Bk
set_option linter.unusedSimpArgs false
set_option linter.unusedVariables false
def srt (xs : List Int) : List Int := xs.mergeSort fun x y => decide (x ≤ y)
theorem srt_len (xs : List Int) : (srt xs).length = xs.length := List.length_mergeSort _
set_option maxHeartbeats 4000000 in
theorem Sort_rc (b : Nat) (xs : List Int) (hn : xs.length ≤ 1048576) (k : Nat) : RC Try.prog 71 [.sl b 0 xs.length] [(b, ⟨2, 1, true, xs.map inL⟩)] k (.tup []) [(b, some ⟨2, 1, true, (srt xs).map inL⟩)] k := by
  refine ⟨goFn_of Try.func71 rfl (by kernel_rfl), Nat.le_refl _, fun i ob h => .inl ?_, fun K m S w vs hk hS hin hown hinj hom _ _ hv => ?_⟩
  · rw [lkE_cons] at h
    split at h
    · rename_i e; subst e; rw [look_cons, if_pos rfl]; rfl
    · simp [lkE] at h
  have hl : Aw.look [(b, (⟨2, 1, true, xs.map inL⟩ : Blk))] b = some ⟨2, 1, true, xs.map inL⟩ := by rw [look_cons, if_pos rfl]
  have one : ∀ {B : Blk} {i : Nat} {c : Blk}, Aw.look [(b, B)] i = some c → i = b ∧ c = B := fun h => by
    rw [look_cons] at h
    split at h
    · rename_i e; cases h; exact ⟨e.symm, rfl⟩
    · simp [look_nil] at h
  have ovE : ∀ {i : Nat} {c : Blk}, Aw.look (ovr [(b, some (⟨2, 1, true, (srt xs).map inL⟩ : Blk))] [(b, (⟨2, 1, true, xs.map inL⟩ : Blk))]) i = some c → i = b ∧ c = ⟨2, 1, true, (srt xs).map inL⟩ := fun {i c} h => by
    rw [look_ovr, lkE_cons] at h
    split at h
    · rename_i e; cases h; exact ⟨e.symm, rfl⟩
    · rename_i e
      simp only [lkE, Option.getD_none] at h
      exact absurd (one h).1 (fun x => e x.symm)
  obtain ⟨hvl, hvv⟩ := hv
  obtain ⟨x, rfl⟩ : ∃ x, vs = [x] := by
    match vs, hvl with
    | [x], _ => exact ⟨x, rfl⟩
  have hx := hvv 0 _ x rfl rfl
  generalize hnn : xs.length = nn at hx
  have post : ∀ w', w.grownBy w' (if (m b).ph = false then some (m b).blk else none) → OB K w' m (addS S k k) b ⟨2, 1, true, (srt xs).map inL⟩ → PostC [(b, (⟨2, 1, true, xs.map inL⟩ : Blk))] [(b, some ⟨2, 1, true, (srt xs).map inL⟩)] K m S w k k (.tup []) (.tuple #[]) w' m K := fun w' hg ho =>
    { ag := fun _ _ => rfl, os := hg.os, tape := hg.tape, output := hg.output, size := hg.size
      keep := fun j hj hne => hg.block j hj (fun e => by
        split at e
        · rename_i hp; simp only [Option.some.injEq] at e; exact hne b _ hl hp e.symm
        · cases e)
      gk := fun _ h => h, gk2 := fun _ h => .inl h, kb := fun j h => Nat.lt_of_lt_of_le (hk j h) hg.size
      vr := .tup _ [] [] rfl (fun j cv y h => by simp at h)
      loc := fun i c h hp => by obtain ⟨rfl, rfl⟩ := ovE h; exact .inr ⟨i, _, hl, hp, rfl⟩
      om := fun i c h hp hq => by obtain ⟨rfl, rfl⟩ := ovE h; have := hom i _ hl hp hq; cases this
      own := fun i c h => by obtain ⟨rfl, rfl⟩ := ovE h; exact ho
      inj := fun i j bi bj h1 h2 hne => by obtain ⟨rfl, _⟩ := ovE h1; obtain ⟨rfl, _⟩ := ovE h2; exact absurd rfl hne }
  have hsl := srt_len xs
  cases hx with
  | sl0 _ _ _ ad hSb =>
    have h0 : xs = [] := List.length_eq_zero_iff.1 hnn
    have h1 : srt xs = [] := List.length_eq_zero_iff.1 (by rw [hsl, hnn])
    refine (slices_Sort_int_none ad 0 w).mono ?_
    rintro e w' ⟨rfl, rfl⟩
    refine ⟨_, m, K, rfl, post _ ⟨rfl, rfl, rfl, Nat.le_refl _, fun _ _ _ => rfl⟩ ?_⟩
    have := hown b _ hl
    rw [h0] at this
    rw [h1]
    exact this.mono (fun _ _ => rfl) (fun _ _ => rfl) (fun i h => .inl h) (fun _ _ => rfl) (hin b _ hl)
  | sl _ _ _ _ o c hSb hph ho hc =>
    subst hnn
    rcases hown b _ hl with ⟨h, _⟩ | ⟨_, hB⟩
    · rw [hph] at h; cases h
    obtain ⟨cur, g1, g2, g3⟩ := hB.ex
    have o0 : o = 0 := by rw [ho, Nat.zero_mul]
    subst o0
    have hcell : ∀ j, (hj : j < xs.length) → cur[j]? = some (.int .i64 xs[j]) := fun j hj => by
      obtain ⟨_, q⟩ := g3 j (inL xs[j]) (by simp [hj])
      obtain ⟨y, y1, _, y3⟩ := q 0 (.v (.int .i64 xs[j])) rfl
      cases y3
      simpa using y1
    have hcap := hB.cap
    have hszz := hB.sz
    simp only [List.length_map, Nat.mul_one] at hcap g2 hszz
    have hH : Sort.Holds (Value.int .i64) w (m b).blk 0 xs.toArray := fun j hj => by
      have hj : j < xs.length := by simpa using hj
      refine ⟨?_, by simp [World.frozen?, g1]⟩
      have := hcell j hj
      simp only [World.cell?, g1, Nat.zero_add, Option.isSome_none, Bool.false_eq_true, if_false]
      rw [this]
      simp [getElem!_pos, hj]
    refine (slices_Sort_int (m b).blk 0 c xs w hH hB.lt_size (by omega)).mono ?_
    rintro e w' ⟨rfl, q, os, rfl⟩
    refine ⟨_, m, K, rfl, post _ (by rw [if_pos hph]; exact grownBy_sortedI _) (.inr ⟨hph, ?_⟩)⟩
    have hb' := heap_sortedI (n := q) (os := os) (srt xs).toArray g1
    refine ⟨hB.nk, hB.sz, by simpa [hsl] using hcap, hB.capm, fun _ r row hr j cv hj => ?_, _, hb', by simp [Sort.putCells, g2], fun r row hr => ?_⟩
    · rw [List.getElem?_map] at hr
      cases hq : (srt xs)[r]? with
      | none => rw [hq] at hr; cases hr
      | some z =>
        rw [hq] at hr; cases hr
        match j, hj with
        | 0, hj => cases hj; rfl
    · rw [List.getElem?_map] at hr
      cases hq : (srt xs)[r]? with
      | none => rw [hq] at hr; cases hr
      | some z =>
        rw [hq] at hr; cases hr
        refine ⟨rfl, fun j cv hj => ?_⟩
        match j, hj with
        | 0, hj =>
          cases hj
          have hr2 : r < (srt xs).length := (List.getElem?_eq_some_iff.1 hq).1
          refine ⟨.int .i64 z, ?_, rfl, .v _ _⟩
          have hr3 : r < cur.size := by omega
          have hz : (srt xs)[r] = z := (List.getElem?_eq_some_iff.1 hq).2
          simp [Sort.putCells, Array.getElem?_mapIdx, hr2, hr3, hz]
end Go.Proofs.Ytglfcaioapdiaaa.So

namespace Go.Proofs.Ytglfcaioapdiaaa.Bk
open Go Go.RowKit Go.Proofs.Ytglfcaioapdiaaa.Aw
set_option linter.unusedSimpArgs false
set_option linter.unusedVariables false
attribute [local irreducible] AW SQ Step RO RC DE Thn InB
theorem allR_false {n : Nat} {f : Nat → Bool} {i : Nat} (hi : i < n) (h : f i = false) : (List.range n).all f = false := by
  cases ha : (List.range n).all f with
  | false => rfl
  | true => have := List.all_eq_true.1 ha i (List.mem_range.2 hi); rw [h] at this; cases this
theorem allR_true {n : Nat} {f : Nat → Bool} (h : ∀ i, i < n → f i = true) : (List.range n).all f = true :=
  List.all_eq_true.2 fun i hi => h i (List.mem_range.1 hi)
def sOk (n : Int) (l : Ln) : Bool := inB l.a 0 (n - 1) && inB l.b (l.a + 1) (n - 1) && inB l.o 0 1000000 && inB l.c 1 1000000
def lexB (p q : Ln) : Bool := decide (p.a < q.a) || (decide (p.a = q.a) && decide (p.b < q.b))
def goodL (n : Int) (ls : List Ln) (i : Nat) : Bool := sOk n (ls.getD i lnz) && (decide (i = 0) || lexB (ls.getD (i - 1) lnz) (ls.getD i lnz))
def bkB (n : Int) (ls : List Ln) : Bool := inB n 1 12 && decide (ls.length ≤ 32) && (List.range ls.length).all (goodL n ls)
theorem bkB_false {n : Int} {ls : List Ln} {i : Nat} (hi : i < ls.length) (h : goodL n ls i = false) : bkB n ls = false := by
  rw [bkB, allR_false hi h, Bool.and_false]
theorem sOk_impl (n : Int) (l : Ln) : (inB l.b 0 (n - 1) && inB l.a 0 (l.b - 1) && inB l.o 0 1000000 && inB l.c 1 1000000) = sOk n l := by
  have : (inB l.b 0 (n - 1) && inB l.a 0 (l.b - 1)) = (inB l.a 0 (n - 1) && inB l.b (l.a + 1) (n - 1)) := by
    rw [Bool.eq_iff_iff]; simp only [inB, Bool.and_eq_true, decide_eq_true_eq]; omega
  rw [sOk, this]
theorem or_lex (p q : Ln) : decide (0 ≤ (if i64c p.a q.a = 0 then i64c p.b q.b else i64c p.a q.a)) = !lexB p q := by
  unfold i64c lexB
  rw [Bool.eq_iff_iff]
  simp only [Bool.not_eq_true', Bool.or_eq_false_iff, Bool.and_eq_false_imp, decide_eq_true_eq, decide_eq_false_iff_not]
  constructor
  · intro h; (repeat' split at h) <;> simp_all <;> omega
  · intro h; (repeat' split) <;> simp_all <;> omega
end Go.Proofs.Ytglfcaioapdiaaa.Bk

namespace Go.Proofs.Ytglfcaioapdiaaa.Bk
open Go Go.RowKit Go.Proofs.Ytglfcaioapdiaaa.Aw
set_option linter.unusedSimpArgs false
set_option linter.unusedVariables false
attribute [local irreducible] AW SQ Step RO RC DE Thn InB
set_option maxHeartbeats 4000000 in
theorem ValidBackhaul_ro (n : Int) (ls : List Ln) (hn : ls.length ≤ 1048576) (k : Nat) : RO Try.prog 75 [.agg (bkL n ls)] k (.v (.bool (bkB n ls))) [] k := by
  unfold bkL
  by_cases c0 : (inB n 1 12 && decide (ls.length ≤ 32)) = true
  · simp only [Bool.and_eq_true, decide_eq_true_eq] at c0
    obtain ⟨c0, c1⟩ := c0
    have b0 : (!inB n 1 12) = false := by rw [c0]; rfl
    have b1 : decide ((32 : Int) < ((ls.map lnL).length : Int)) = false := by simp; omega
    have hn1 : 1 ≤ n ∧ n ≤ 12 := by simpa [inB] using c0
    have hw : IntKind.i64.wrap (n - 1) = n - 1 := IntWalk.i64_in _ (by omega)
    refine RO.ofv' Try.func75 Try.ntmps75 rfl (goFn_of Try.func75 rfl (by kernel_rfl)) rfl rfl ?_
    ((repeat' (first
    | (show SQ _ _ _ _ _ _ _ _; first | apply sq_nil | (apply q_move; exact rfl; exact rfl) | (apply q_assign; exact rfl; exact rfl) | (apply q_pick_f; (iterate 3 exact rfl); exact (by first | assumption | exact rfl)) | (apply q_fieldAddr; exact rfl; exact rfl; exact (ty rfl); iterate 4 exact rfl) | (apply q_not; exact rfl; exact rfl) | (apply q_lend; exact rfl; exact rfl; exact (ty rfl); exact rfl) | (apply q_gtr; iterate 3 exact rfl) | (apply q_ld1p; exact rfl; exact rfl; exact (ty rfl); exact rfl; exact rfl; exact (by first | rfl | assumption | ((try simp only [Nat.zero_add]); refine List.getElem?_set_self ?_; (try simp only [List.length_set]); assumption)); exact rfl) | (apply q_g; (iterate 3 exact rfl); exact (by assumption)))
    | (show SQ _ _ _ _ _ _ _ _; (first | (apply q_box; iterate 3 exact rfl) | (apply q_callU; (iterate 3 exact rfl); exact FzL.of rfl; exact within_ro _ _ _ _)); (try simp only [put, rowsOf, plR, selE, ovr, setH, del, cellsA, splice, isV, spq, if_true, if_false]))
    | (show AW _ _ _ _ _ _ _ _; first | refine aw_region ?_ | (refine aw_seqk ?_; intro K hK) | refine aw_block ?_ | (apply aw_cond_f; exact rfl; exact (by assumption)) | refine aw_skip ?_)
    | refine thn_n ?_
    | (refine hK _ _ _ ?_; clear hK K))); all_goals (repeat (clear hK K)))
    refine aw_loop (ρ := id) (ι := Nat) (fun i => ([(18, .v (.int .i64 i)), (17, .v (.int .i64 ls.length)), (16, .dsl 4 (ls.map lnL)), (1, .ptr 0 0 0)], [(0, ⟨31, 2, false, [[.v (.int .i64 n), .dsl 4 (ls.map lnL)]]⟩)], 1))
      (fun i => i ≤ ls.length ∧ ∀ j, j < i → goodL n ls j = true) (fun i => ls.length - i) 0 ⟨Nat.zero_le _, fun _ h => absurd h (Nat.not_lt_zero _)⟩ ⟨by (repeat (refine ⟨by first | exact lk_i rfl rfl | exact lk_i rfl (by (try dsimp only); first | rfl | omega | (rw [IntWalk.i64_in _ (by omega)]; first | rfl | omega | (push_cast; omega)) | (simp; done) | (simp; omega)) | exact lk_d rfl rfl | exact lk_r rfl rfl rfl, ?_⟩)); exact trivial, by (repeat (refine ⟨by first | exact ⟨rfl, rfl, rfl⟩, ?_⟩)); exact trivial, by rfl, by exact pin_0⟩ ?_
    rintro i ⟨hi, hg⟩
    by_cases c2 : i < ls.length
    · have b2 : decide ((i : Int) < (ls.length : Int)) = true := by simpa using c2
      have hrow : (ls.map lnL)[((i : Int)).toNat]? = some (lnL ls[i]) := by simp [c2]
      rw [lnL_eq ls[i]] at hrow
      have hD : ls.getD i lnz = ls[i] := by simp [List.getD, c2]
      have hwa : inB ls[i].b 0 (n - 1) = true → IntKind.i64.wrap (ls[i].b - 1) = ls[i].b - 1 := fun h => IntWalk.i64_in _ (by simp [inB] at h; omega)
      have hso := sOk_impl n ls[i]
      by_cases c3 : i = 0
      · have b5 : decide ((0 : Int) < (i : Int)) = false := by simp; omega
        ((repeat' (first
    | (show SQ _ _ _ _ _ _ _ _; first | apply sq_nil | (apply q_move; exact rfl; exact rfl) | (apply q_assign; exact rfl; exact rfl) | (apply q_pick_t; (iterate 3 exact rfl); exact (by first | assumption | exact rfl)) | (apply q_pick_f; (iterate 3 exact rfl); exact (by first | assumption | exact rfl)) | (apply q_fieldAddr; exact rfl; exact rfl; exact (ty rfl); iterate 4 exact rfl) | (apply q_not; exact rfl; exact rfl) | (apply q_add; iterate 3 exact rfl) | (apply q_sub; iterate 3 exact rfl) | (apply q_lss; iterate 3 exact rfl) | (apply q_ixd; (iterate 3 exact rfl); exact (ty rfl); exact rfl; exact (by first | omega | (simp; done) | (simp; omega)); exact (by first | omega | (simp; done) | (simp; omega)); exact (by first | rfl | assumption)) | (apply q_ld1p; exact rfl; exact rfl; exact (ty rfl); exact rfl; exact rfl; exact (by first | rfl | assumption | ((try simp only [Nat.zero_add]); refine List.getElem?_set_self ?_; (try simp only [List.length_set]); assumption)); exact rfl) | (apply q_g; (iterate 3 exact rfl); exact (by assumption)) | (apply q_s; (iterate 3 exact rfl); exact (by assumption); exact rfl) | (apply q_s; iterate 5 exact rfl))
    | (show SQ _ _ _ _ _ _ _ _; (first | (apply q_ldad; exact rfl; exact rfl; exact (ty rfl); exact rfl; exact rfl) | (apply q_alloc; exact rfl; exact (ty rfl); exact rfl; exact rfl) | (apply q_store; exact rfl; exact rfl; exact (ty rfl); exact rfl; exact (by first | rfl | assumption | ((try simp only [Nat.zero_add]); refine List.getElem?_set_self ?_; (try simp only [List.length_set]); assumption)); iterate 3 exact rfl) | (apply q_callU; (iterate 3 exact rfl); exact FzL.of rfl; exact within_ro _ _ _ _)); (try simp only [put, rowsOf, plR, selE, ovr, setH, del, cellsA, splice, isV, spq, if_true, if_false]))
    | (show SQ _ _ _ _ _ _ _ _; apply q_gs; (iterate 4 exact rfl); all_goals intro h)
    | (show DE _ _ _ _ _ _ _ _ _ _ _ _; first | (apply e_move; iterate 3 exact rfl) | (apply e_pick_f; (iterate 3 exact rfl); exact (by first | assumption | exact rfl); exact rfl) | (apply e_gtr; iterate 4 exact rfl) | (apply e_s; (iterate 3 exact rfl); exact (by assumption); exact rfl))
    | (show DE _ _ _ _ _ _ _ _ _ _ _ _; (first | (apply dr_nil; exact trivial)); (try simp only [put, rowsOf, plR, selE, ovr, setH, del, cellsA, splice, isV, spq, if_true, if_false]))
    | (show AW _ _ _ _ _ _ _ _; first | refine aw_region ?_ | (refine aw_seqk ?_; intro K hK) | refine aw_block ?_ | (apply aw_cond_t; exact rfl; exact rfl) | (apply aw_cond_f; exact rfl; exact rfl) | (apply aw_cond_t; exact rfl; exact (by assumption)) | refine aw_ret ?_ | refine aw_skip ?_ | refine aw_drawE (id := 8) [0, 1, 3, 7, 15, 7, 39, 127, 255, 511, 7, 1031, 4095, 7, 8199, 7, 32775, 122887, 253959, 516103, 7, 1048583, 4194303, 8388607, 16777215, 33554431, 67108863] [0, 0, 0, 0, 1, 0, 0, 0, 0, 1, 0, 1, 1, 0, 1, 0, 0, 0, 0, 1, 0, 1, 1, 1, 1, 0, 0] mixed (by kernel_rfl) ?_ | (apply aw_ite; exact rfl; all_goals intro h))
    | refine thn_n ?_
    | (refine hK _ _ _ ?_; clear hK K)
    | refine thn_r ?_
    | refine inb_n ?_
    | refine inb_r ?_)); all_goals (repeat (clear hK K)))
        all_goals first
          | (refine fin_r (fin_b rfl ?_)
             refine (bkB_false c2 ?_).symm
             simp_all [goodL]; done)
          | (refine fin_r (fin_b rfl ?_)
             refine (bkB_false c2 ?_).symm
             simp only [goodL, hD, ← hso]
             simp_all; done)
          | (refine ⟨i + 1, id, ⟨c2, fun j hj => ?_⟩, by omega, ⟨by (repeat (refine ⟨by first | exact lk_i rfl rfl | exact lk_i rfl (by (try dsimp only); first | rfl | omega | (rw [IntWalk.i64_in _ (by omega)]; first | rfl | omega | (push_cast; omega)) | (simp; done) | (simp; omega)) | exact lk_d rfl rfl | exact lk_r rfl rfl rfl, ?_⟩)); exact trivial, by (repeat (refine ⟨by first | exact ⟨rfl, rfl, rfl⟩, ?_⟩)); exact trivial, by rfl, by exact pin_0⟩⟩
             by_cases hjq : j < i
             · exact hg j hjq
             · have : j = i := by omega
               subst this
               simp only [goodL, hD, ← hso]
               simp_all)
      · have hw2 : IntKind.i64.wrap ((i : Int) - 1) = (i : Int) - 1 := IntWalk.i64_in _ (by omega)
        have hrow2 : (ls.map lnL)[(IntKind.i64.wrap ((i : Int) - 1)).toNat]? = some (lnL ls[i - 1]) := by
          rw [hw2, show ((i : Int) - 1).toNat = i - 1 by omega]; simp [show i - 1 < ls.length by omega]
        rw [lnL_eq ls[i - 1]] at hrow2
        have hP : ls.getD (i - 1) lnz = ls[i - 1] := by simp [List.getD, show i - 1 < ls.length by omega]
        have b5 : decide ((0 : Int) < (i : Int)) = true := by simp; omega
        have hol := or_lex ls[i - 1] ls[i]
        ((repeat' (first
    | (show SQ _ _ _ _ _ _ _ _; first | apply sq_nil | (apply q_move; exact rfl; exact rfl) | (apply q_assign; exact rfl; exact rfl) | (apply q_pick_t; (iterate 3 exact rfl); exact (by first | assumption | exact rfl)) | (apply q_pick_f; (iterate 3 exact rfl); exact (by first | assumption | exact rfl)) | (apply q_fieldAddr; exact rfl; exact rfl; exact (ty rfl); iterate 4 exact rfl) | (apply q_not; exact rfl; exact rfl) | (apply q_add; iterate 3 exact rfl) | (apply q_sub; iterate 3 exact rfl) | (apply q_lss; iterate 3 exact rfl) | (apply q_ixd; (iterate 3 exact rfl); exact (ty rfl); exact rfl; exact (by first | omega | (simp; done) | (simp; omega)); exact (by first | omega | (simp; done) | (simp; omega)); exact (by first | rfl | assumption)) | (apply q_ld1p; exact rfl; exact rfl; exact (ty rfl); exact rfl; exact rfl; exact (by first | rfl | assumption | ((try simp only [Nat.zero_add]); refine List.getElem?_set_self ?_; (try simp only [List.length_set]); assumption)); exact rfl) | (apply q_g; (iterate 3 exact rfl); exact (by assumption)) | (apply q_s; (iterate 3 exact rfl); exact (by assumption); exact rfl) | (apply q_s; iterate 5 exact rfl))
    | (show SQ _ _ _ _ _ _ _ _; (first | (apply q_ldad; exact rfl; exact rfl; exact (ty rfl); exact rfl; exact rfl) | (apply q_alloc; exact rfl; exact (ty rfl); exact rfl; exact rfl) | (apply q_store; exact rfl; exact rfl; exact (ty rfl); exact rfl; exact (by first | rfl | assumption | ((try simp only [Nat.zero_add]); refine List.getElem?_set_self ?_; (try simp only [List.length_set]); assumption)); iterate 3 exact rfl) | (apply q_callU; (iterate 3 exact rfl); exact FzL.of rfl; exact within_ro _ _ _ _)); (try simp only [put, rowsOf, plR, selE, ovr, setH, del, cellsA, splice, isV, spq, if_true, if_false]))
    | (show SQ _ _ _ _ _ _ _ _; apply q_gs; (iterate 4 exact rfl); all_goals intro h)
    | (show DE _ _ _ _ _ _ _ _ _ _ _ _; first | (apply e_move; iterate 3 exact rfl) | (apply e_pick_t; (iterate 3 exact rfl); exact (by first | assumption | exact rfl); exact rfl) | (apply e_fieldAddr; exact rfl; exact rfl; exact (ty rfl); iterate 5 exact rfl) | (apply e_sub; iterate 4 exact rfl) | (apply e_gtr; iterate 4 exact rfl) | (apply e_geq; iterate 4 exact rfl) | (apply e_ixd; (iterate 3 exact rfl); exact (ty rfl); exact rfl; exact (by first | omega | (simp; done) | (simp; omega)); exact (by first | omega | (simp; done) | (simp; omega)); exact (by first | rfl | assumption); exact rfl) | (apply e_ld1d; exact rfl; exact rfl; exact (ty rfl); iterate 3 exact rfl) | (apply e_ld1p; exact rfl; exact rfl; exact (ty rfl); exact rfl; exact rfl; exact (by first | rfl | assumption | ((try simp only [Nat.zero_add]); refine List.getElem?_set_self ?_; (try simp only [List.length_set]); assumption)); exact rfl; exact rfl) | (apply e_g; (iterate 3 exact rfl); exact (by assumption)))
    | (show DE _ _ _ _ _ _ _ _ _ _ _ _; (first | (apply dr_nil; exact trivial) | (apply e_buildn; exact rfl; exact (ty rfl); iterate 8 exact rfl) | (apply e_callU; (iterate 3 exact rfl); exact FzL.of rfl; exact Compare_ro _ _ _; exact rfl) | (apply e_callU; (iterate 3 exact rfl); exact FzL.of rfl; exact Or_ro _ _ _; exact rfl)); (try simp only [put, rowsOf, plR, selE, ovr, setH, del, cellsA, splice, isV, spq, if_true, if_false]))
    | (show AW _ _ _ _ _ _ _ _; first | refine aw_region ?_ | (refine aw_seqk ?_; intro K hK) | refine aw_block ?_ | (apply aw_cond_t; exact rfl; exact rfl) | (apply aw_cond_t; exact rfl; exact (by assumption)) | refine aw_ret ?_ | refine aw_skip ?_ | refine aw_drawE (id := 8) [0, 1, 3, 7, 15, 7, 39, 127, 255, 511, 7, 1031, 4095, 7, 8199, 7, 32775, 122887, 253959, 516103, 7, 1048583, 4194303, 8388607, 16777215, 33554431, 67108863] [0, 0, 0, 0, 1, 0, 0, 0, 0, 1, 0, 1, 1, 0, 1, 0, 0, 0, 0, 1, 0, 1, 1, 1, 1, 0, 0] mixed (by kernel_rfl) ?_ | (apply aw_ite; exact rfl; all_goals intro h))
    | refine thn_n ?_
    | (refine hK _ _ _ ?_; clear hK K)
    | refine thn_r ?_
    | refine inb_n ?_
    | refine inb_r ?_)); all_goals (repeat (clear hK K)))
        all_goals first
          | (refine fin_r (fin_b rfl ?_)
             refine (bkB_false c2 ?_).symm
             simp only [goodL, hD, hP, ← hso]
             clear hso
             simp_all; done)
          | (refine ⟨i + 1, id, ⟨c2, fun j hj => ?_⟩, by omega, ⟨by (repeat (refine ⟨by first | exact lk_i rfl rfl | exact lk_i rfl (by (try dsimp only); first | rfl | omega | (rw [IntWalk.i64_in _ (by omega)]; first | rfl | omega | (push_cast; omega)) | (simp; done) | (simp; omega)) | exact lk_d rfl rfl | exact lk_r rfl rfl rfl, ?_⟩)); exact trivial, by (repeat (refine ⟨by first | exact ⟨rfl, rfl, rfl⟩, ?_⟩)); exact trivial, by rfl, by exact pin_0⟩⟩
             by_cases hjq : j < i
             · exact hg j hjq
             · have : j = i := by omega
               subst this
               simp only [goodL, hD, hP, ← hso]
               clear hso
               simp_all)
    · have b2 : decide ((i : Int) < (ls.length : Int)) = false := by simpa using c2
      ((repeat' (first
    | (show SQ _ _ _ _ _ _ _ _; first | apply sq_nil | (apply q_assign; exact rfl; exact rfl) | (apply q_lss; iterate 3 exact rfl))
    | (show AW _ _ _ _ _ _ _ _; first | refine aw_region ?_ | (refine aw_seqk ?_; intro K hK) | (apply aw_cond_f; exact rfl; exact (by assumption)) | refine aw_ret ?_ | refine aw_exit ?_)
    | refine thn_n ?_
    | (refine hK _ _ _ ?_; clear hK K)
    | refine thn_e ?_
    | refine inb_same ?_
    | (clear hK K; refine hK _ _ _ ?_; clear hK K))); all_goals (repeat (clear hK K)))
      all_goals refine fin_r (fin_b rfl ?_)
      have : i = ls.length := by omega
      subst this
      rw [bkB, allR_true hg, c0]
      simp [c1]
  · have c0 : (inB n 1 12 && decide (ls.length ≤ 32)) = false := by simpa using c0
    have e0 : bkB n ls = false := by rw [bkB, c0]; rfl
    rw [e0]
    by_cases c1 : inB n 1 12 = true
    · have b0 : (!inB n 1 12) = false := by rw [c1]; rfl
      have b1 : decide ((32 : Int) < ((ls.map lnL).length : Int)) = true := by simp [c1] at c0; simp; omega
      refine RO.ofv' Try.func75 Try.ntmps75 rfl (goFn_of Try.func75 rfl (by kernel_rfl)) rfl rfl ?_
      ((repeat' (first
    | (show SQ _ _ _ _ _ _ _ _; first | apply sq_nil | (apply q_move; exact rfl; exact rfl) | (apply q_assign; exact rfl; exact rfl) | (apply q_pick_f; (iterate 3 exact rfl); exact (by first | assumption | exact rfl)) | (apply q_fieldAddr; exact rfl; exact rfl; exact (ty rfl); iterate 4 exact rfl) | (apply q_not; exact rfl; exact rfl) | (apply q_lend; exact rfl; exact rfl; exact (ty rfl); exact rfl) | (apply q_gtr; iterate 3 exact rfl) | (apply q_ld1p; exact rfl; exact rfl; exact (ty rfl); exact rfl; exact rfl; exact (by first | rfl | assumption | ((try simp only [Nat.zero_add]); refine List.getElem?_set_self ?_; (try simp only [List.length_set]); assumption)); exact rfl) | (apply q_g; (iterate 3 exact rfl); exact (by assumption)))
    | (show SQ _ _ _ _ _ _ _ _; (first | (apply q_box; iterate 3 exact rfl) | (apply q_callU; (iterate 3 exact rfl); exact FzL.of rfl; exact within_ro _ _ _ _)); (try simp only [put, rowsOf, plR, selE, ovr, setH, del, cellsA, splice, isV, spq, if_true, if_false]))
    | (show AW _ _ _ _ _ _ _ _; first | refine aw_region ?_ | (refine aw_seqk ?_; intro K hK) | (apply aw_cond_t; exact rfl; exact (by assumption)) | refine aw_ret ?_)
    | refine thn_n ?_
    | (refine hK _ _ _ ?_; clear hK K)
    | refine thn_r ?_)); all_goals (repeat (clear hK K)))
      all_goals exact fin_r (fin_b rfl rfl)
    · have b0 : (!inB n 1 12) = true := by simpa using c1
      refine RO.ofv' Try.func75 Try.ntmps75 rfl (goFn_of Try.func75 rfl (by kernel_rfl)) rfl rfl ?_
      ((repeat' (first
    | (show SQ _ _ _ _ _ _ _ _; first | apply sq_nil | (apply q_move; exact rfl; exact rfl) | (apply q_assign; exact rfl; exact rfl) | (apply q_pick_t; (iterate 3 exact rfl); exact (by first | assumption | exact rfl)) | (apply q_fieldAddr; exact rfl; exact rfl; exact (ty rfl); iterate 4 exact rfl) | (apply q_not; exact rfl; exact rfl) | (apply q_ld1p; exact rfl; exact rfl; exact (ty rfl); exact rfl; exact rfl; exact (by first | rfl | assumption | ((try simp only [Nat.zero_add]); refine List.getElem?_set_self ?_; (try simp only [List.length_set]); assumption)); exact rfl) | (apply q_s; (iterate 3 exact rfl); exact (by assumption); exact rfl))
    | (show SQ _ _ _ _ _ _ _ _; (first | (apply q_box; iterate 3 exact rfl) | (apply q_callU; (iterate 3 exact rfl); exact FzL.of rfl; exact within_ro _ _ _ _)); (try simp only [put, rowsOf, plR, selE, ovr, setH, del, cellsA, splice, isV, spq, if_true, if_false]))
    | (show AW _ _ _ _ _ _ _ _; first | refine aw_region ?_ | (refine aw_seqk ?_; intro K hK) | (apply aw_cond_t; exact rfl; exact rfl) | refine aw_ret ?_)
    | refine thn_n ?_
    | (refine hK _ _ _ ?_; clear hK K)
    | refine thn_r ?_)); all_goals (repeat (clear hK K)))
      all_goals exact fin_r (fin_b rfl rfl)
end Go.Proofs.Ytglfcaioapdiaaa.Bk

namespace Go.Proofs.Ytglfcaioapdiaaa.Bk
open Go Go.RowKit Go.Proofs.Ytglfcaioapdiaaa.Aw
set_option linter.unusedSimpArgs false
set_option linter.unusedVariables false
attribute [local irreducible] AW SQ Step RO RC DE Thn InB
def ixG {α : Type} (p : α → Bool) : List α → Int
  | [] => -1
  | x :: xs => if p x then 0 else if ixG p xs < 0 then -1 else ixG p xs + 1
theorem ixG_any {α : Type} (p : α → Bool) : ∀ xs, decide (0 ≤ ixG p xs) = xs.any p
  | [] => rfl
  | x :: xs => by
    have ih := ixG_any p xs
    simp only [ixG, List.any_cons]
    by_cases h : p x
    · simp [h]
    · simp only [h, Bool.false_or, Bool.false_eq_true, if_false]
      rw [← ih]
      split
      · rename_i h2; simp; omega
      · rename_i h2; simp; omega
theorem ixG_at {α : Type} (p : α → Bool) : ∀ (pre : List α) (x : α) (r : List α), (∀ y ∈ pre, p y = false) → p x = true → ixG p (pre ++ x :: r) = pre.length
  | [], x, r, _, h => by simp [ixG, h]
  | y :: pre, x, r, h, hx => by
    have ih := ixG_at p pre x r (fun z hz => h z (List.mem_cons_of_mem _ hz)) hx
    simp only [List.cons_append, ixG, h y List.mem_cons_self, Bool.false_eq_true, if_false, ih]
    rw [if_neg (by omega)]
    simp
theorem ixG_none {α : Type} (p : α → Bool) : ∀ (xs : List α), (∀ y ∈ xs, p y = false) → ixG p xs = -1
  | [], _ => rfl
  | y :: xs, h => by simp [ixG, h y List.mem_cons_self, ixG_none p xs fun z hz => h z (List.mem_cons_of_mem _ hz)]
theorem ixG_hit {α : Type} {p : α → Bool} {xs : List α} {i : Nat} (hi : i < xs.length) (h : ∀ y ∈ xs.take i, p y = false) (hx : p xs[i] = true) : ixG p xs = i := by
  have := ixG_at p (xs.take i) xs[i] (xs.drop (i + 1)) h hx
  rw [← List.drop_eq_getElem_cons hi, List.take_append_drop] at this
  rw [this]; simp; omega
theorem ixG_rng {α : Type} (p : α → Bool) : ∀ (xs : List α), -1 ≤ ixG p xs ∧ ixG p xs < xs.length
  | [] => by simp [ixG]
  | x :: xs => by
    have := ixG_rng p xs
    simp only [ixG, List.length_cons]
    split
    · omega
    · split <;> omega
theorem takeS {α : Type} {p : α → Bool} {xs : List α} {i : Nat} (hi : i < xs.length) (h : ∀ y ∈ xs.take i, p y = false) (hx : p xs[i] = false) : ∀ y ∈ xs.take (i + 1), p y = false := by
  intro y hy
  rw [List.take_succ_eq_append_getElem hi] at hy
  rcases List.mem_append.1 hy with h1 | h1
  · exact h y h1
  · simp at h1; subst h1; exact hx
def linkP (x y : Int) (l : Ln) : Bool := (l.a == x && l.b == y) || (l.a == y && l.b == x)
theorem linkP_iff {x y : Int} {l : Ln} : linkP x y l = true ↔ (l.a = x ∧ l.b = y) ∨ (l.a = y ∧ l.b = x) := by
  simp [linkP]
theorem linkP_symm {x y : Int} {l : Ln} (h : linkP x y l = true) : linkP y x l = true := by
  rw [linkP_iff] at h ⊢; exact h.symm
set_option maxHeartbeats 4000000 in
theorem slIndex_ro (xs : List Int) (rows : List (List AV)) (n : Int) (hrows : rows = xs.map inL) (hn : xs.length ≤ 1048576) (k : Nat) : RO Try.prog 106 [.dsl 1 rows, .v (.int .i64 n)] k (.v (.int .i64 (ixG (fun y => y == n) xs))) [] k := by
  subst hrows
  refine RO.ofv' Try.func106 Try.ntmps106 rfl (goFn_of Try.func106 rfl (by kernel_rfl)) rfl rfl ?_
  ((repeat' (first
    | (show SQ _ _ _ _ _ _ _ _; first | apply sq_nil | (apply q_move; exact rfl; exact rfl) | (apply q_assign; exact rfl; exact rfl) | (apply q_lend; exact rfl; exact rfl; exact (ty rfl); exact rfl))
    | (show AW _ _ _ _ _ _ _ _; first | refine aw_region ?_ | (refine aw_seqk ?_; intro K hK) | refine aw_block ?_)
    | refine thn_n ?_
    | (refine hK _ _ _ ?_; clear hK K))); all_goals (repeat (clear hK K)))
  refine aw_loop (ρ := id) (ι := Nat) (fun i => ([(8, .v (.int .i64 i)), (7, .v (.int .i64 xs.length)), (1, .v (.int .i64 n)), (0, .dsl 1 (xs.map inL))], [], 0))
    (fun i => i ≤ xs.length ∧ ∀ y ∈ xs.take i, (y == n) = false) (fun i => xs.length - i) 0 ⟨Nat.zero_le _, by simp⟩ ⟨⟨lk_i rfl rfl, lk_i rfl (by simp), lk_i rfl rfl, lk_d rfl rfl, trivial⟩, trivial, rfl, pin_0⟩ ?_
  rintro i ⟨hi, hg⟩
  by_cases c2 : i < xs.length
  · have b2 : decide ((i : Int) < (xs.length : Int)) = true := by simpa using c2
    have hrow : (xs.map inL)[((i : Int)).toNat]? = some (inL xs[i]) := by simp [c2]
    rw [inL_eq] at hrow
    have hcm : (n == xs[i]) = (xs[i] == n) := by rw [Bool.eq_iff_iff]; simp only [beq_iff_eq]; exact eq_comm
    ((repeat' (first
    | (show SQ _ _ _ _ _ _ _ _; first | apply sq_nil | (apply q_move; exact rfl; exact rfl) | (apply q_assign; exact rfl; exact rfl) | (apply q_add; iterate 3 exact rfl) | (apply q_eql; iterate 3 exact rfl) | (apply q_lss; iterate 3 exact rfl) | (apply q_ixd; (iterate 3 exact rfl); exact (ty rfl); exact rfl; exact (by first | omega | (simp; done) | (simp; omega)); exact (by first | omega | (simp; done) | (simp; omega)); exact (by first | rfl | assumption)) | (apply q_ld1d; exact rfl; exact rfl; exact (ty rfl); exact rfl; exact rfl))
    | (show AW _ _ _ _ _ _ _ _; first | refine aw_region ?_ | (refine aw_seqk ?_; intro K hK) | refine aw_block ?_ | (apply aw_cond_t; exact rfl; exact (by assumption)) | refine aw_ret ?_ | refine aw_skip ?_ | (apply aw_ite; exact rfl; all_goals intro h))
    | refine thn_n ?_
    | (refine hK _ _ _ ?_; clear hK K)
    | refine thn_r ?_
    | refine inb_n ?_
    | refine inb_r ?_)); all_goals (repeat (clear hK K)))
    all_goals first
      | (refine fin_r (fin_i rfl ?_)
         refine (ixG_hit c2 hg ?_).symm
         rw [← hcm]; assumption)
      | (refine ⟨i + 1, id, ⟨c2, takeS c2 hg ?_⟩, by omega, ⟨by (repeat (refine ⟨by first | exact lk_i rfl rfl | exact lk_i rfl (by (try dsimp only); first | rfl | omega | (rw [IntWalk.i64_in _ (by omega)]; first | rfl | omega | (push_cast; omega)) | (simp; done) | (simp; omega)) | exact lk_d rfl rfl, ?_⟩)); exact trivial, by exact trivial, by rfl, by exact pin_0⟩⟩
         rw [← hcm]; assumption)
  · have b2 : decide ((i : Int) < (xs.length : Int)) = false := by simpa using c2
    ((repeat' (first
    | (show SQ _ _ _ _ _ _ _ _; first | apply sq_nil | (apply q_assign; exact rfl; exact rfl) | (apply q_lss; iterate 3 exact rfl))
    | (show AW _ _ _ _ _ _ _ _; first | refine aw_region ?_ | (refine aw_seqk ?_; intro K hK) | (apply aw_cond_f; exact rfl; exact (by assumption)) | refine aw_ret ?_ | refine aw_exit ?_)
    | refine thn_n ?_
    | (refine hK _ _ _ ?_; clear hK K)
    | refine thn_e ?_
    | refine inb_same ?_
    | (clear hK K; refine hK _ _ _ ?_; clear hK K))); all_goals (repeat (clear hK K)))
    all_goals refine fin_r (fin_i rfl ?_)
    rw [List.take_of_length_le (by omega)] at hg
    exact (ixG_none _ xs hg).symm
set_option maxHeartbeats 4000000 in
theorem slContains_ro (xs : List Int) (rows : List (List AV)) (n : Int) (hrows : rows = xs.map inL) (hn : xs.length ≤ 1048576) (k : Nat) : RO Try.prog 69 [.dsl 1 rows, .v (.int .i64 n)] k (.v (.bool (xs.any fun y => y == n))) [] k := by
  refine RO.ofv' Try.func69 Try.ntmps69 rfl (goFn_of Try.func69 rfl (by kernel_rfl)) rfl rfl ?_
  ((repeat' (first
    | (show SQ _ _ _ _ _ _ _ _; first | apply sq_nil | (apply q_move; exact rfl; exact rfl) | (apply q_assign; exact rfl; exact rfl) | (apply q_geq; iterate 3 exact rfl))
    | (show SQ _ _ _ _ _ _ _ _; (first | (apply q_callU; (iterate 3 exact rfl); exact FzL.of rfl; exact slIndex_ro xs rows n hrows hn _)); (try simp only [put, rowsOf, plR, selE, ovr, setH, del, cellsA, splice, isV, spq, if_true, if_false]))
    | (show AW _ _ _ _ _ _ _ _; first | refine aw_region ?_ | (refine aw_seqk ?_; intro K hK) | refine aw_ret ?_)
    | refine thn_n ?_
    | (refine hK _ _ _ ?_; clear hK K))); all_goals (repeat (clear hK K)))
  all_goals refine fin_r (fin_b rfl ?_)
  exact ixG_any _ xs
end Go.Proofs.Ytglfcaioapdiaaa.Bk

namespace Go.Proofs.Ytglfcaioapdiaaa.Bk
open Go Go.RowKit Go.Proofs.Ytglfcaioapdiaaa.Aw
set_option linter.unusedSimpArgs false
set_option linter.unusedVariables false
attribute [local irreducible] AW SQ Step RO RC DE Thn InB
set_option maxHeartbeats 4000000 in
theorem IndexFuncLn_ro (xs : List Ln) (rows : List (List AV)) (f : FuncId) (caps : List AV) (p : Ln → Bool) (hcap : idsOkL 0 caps = true) (hz : FzC caps) (hrows : rows = xs.map lnL) (hf : ∀ x ∈ xs, ∀ m, RO Try.prog f ((.agg (lnL x)) :: caps) m (.v (.bool (p x))) [] m) (hn : xs.length ≤ 1048576) (k : Nat) :
    RO Try.prog 114 [.dsl 4 rows, .fn f caps] k (.v (.int .i64 (ixG p xs))) [] k := by
  subst hrows
  refine RO.ofv' Try.func114 Try.ntmps114 rfl (goFn_of Try.func114 rfl (by kernel_rfl)) rfl rfl ?_
  ((repeat' (first
    | (show SQ _ _ _ _ _ _ _ _; first | apply sq_nil | (apply q_move; exact rfl; exact rfl) | (apply q_assign; exact rfl; exact rfl) | (apply q_lend; exact rfl; exact rfl; exact (ty rfl); exact rfl))
    | (show AW _ _ _ _ _ _ _ _; first | refine aw_region ?_ | (refine aw_seqk ?_; intro K hK) | refine aw_block ?_)
    | refine thn_n ?_
    | (refine hK _ _ _ ?_; clear hK K))); all_goals (repeat (clear hK K)))
  refine aw_loop (ρ := id) (ι := Nat) (fun i => ([(8, .v (.int .i64 i)), (7, .v (.int .i64 xs.length)), (1, .fn f caps), (0, .dsl 4 (xs.map lnL))], [], 0))
    (fun i => i ≤ xs.length ∧ ∀ y ∈ xs.take i, p y = false) (fun i => xs.length - i) 0 ⟨Nat.zero_le _, by simp⟩ ⟨⟨lk_i rfl rfl, lk_i rfl (by simp), lk_f rfl (renL_id caps) hcap, lk_d rfl rfl, trivial⟩, trivial, rfl, pin_0⟩ ?_
  rintro i ⟨hi, hp⟩
  by_cases c2 : i < xs.length
  · have b2 : decide ((i : Int) < (xs.length : Int)) = true := by simpa using c2
    have hrow : (xs.map lnL)[((i : Int)).toNat]? = some (lnL xs[i]) := by simp [c2]
    try rw [inL_eq] at hrow
    have hc := hf xs[i] (List.getElem_mem c2)
    by_cases c3 : p xs[i] = true
    · ((repeat' (first
    | (show SQ _ _ _ _ _ _ _ _; first | apply sq_nil | (apply q_move; exact rfl; exact rfl) | (apply q_assign; exact rfl; exact rfl) | (apply q_lss; iterate 3 exact rfl) | (apply q_ixd; (iterate 3 exact rfl); exact (ty rfl); exact rfl; exact (by first | omega | (simp; done) | (simp; omega)); exact (by first | omega | (simp; done) | (simp; omega)); exact (by first | rfl | assumption)))
    | (show SQ _ _ _ _ _ _ _ _; (first | (apply q_ldad; exact rfl; exact rfl; exact (ty rfl); exact rfl; exact rfl) | (apply q_callU; (iterate 3 exact rfl); rotate_left; exact hc _; rotate_right; focus ((repeat' (first | exact FzL.nil | exact (by assumption : FzC _) _ | refine FzL.cons ?_ ?_ | exact Fz.of rfl | exact Fz.nil | exact Fz.emp | (apply Fz.fnC; assumption) | (apply Fz.sl2; exact rfl; exact (by first | omega | (simp; done) | (simp; omega)); first | exact rfl | exact dt_full (by first | omega | (simp; done) | (simp; omega)) | assumption) | apply Fz.agg | (apply Fz.ptrL; exact rfl; first | exact rfl | assumption) | apply Fz.fnL)); done))); (try simp only [put, rowsOf, plR, selE, ovr, setH, del, cellsA, splice, isV, spq, if_true, if_false]))
    | (show AW _ _ _ _ _ _ _ _; first | refine aw_region ?_ | (refine aw_seqk ?_; intro K hK) | refine aw_block ?_ | (apply aw_cond_t; exact rfl; exact (by assumption)) | refine aw_ret ?_ | refine aw_skip ?_)
    | refine thn_n ?_
    | (refine hK _ _ _ ?_; clear hK K)
    | refine thn_r ?_
    | refine inb_r ?_)); all_goals (repeat (clear hK K)))
      all_goals refine fin_r (fin_i rfl ?_)
      exact (ixG_hit c2 hp c3).symm
    · have c3 : p xs[i] = false := by simpa using c3
      ((repeat' (first
    | (show SQ _ _ _ _ _ _ _ _; first | apply sq_nil | (apply q_move; exact rfl; exact rfl) | (apply q_assign; exact rfl; exact rfl) | (apply q_add; iterate 3 exact rfl) | (apply q_lss; iterate 3 exact rfl) | (apply q_ixd; (iterate 3 exact rfl); exact (ty rfl); exact rfl; exact (by first | omega | (simp; done) | (simp; omega)); exact (by first | omega | (simp; done) | (simp; omega)); exact (by first | rfl | assumption)))
    | (show SQ _ _ _ _ _ _ _ _; (first | (apply q_ldad; exact rfl; exact rfl; exact (ty rfl); exact rfl; exact rfl) | (apply q_callU; (iterate 3 exact rfl); rotate_left; exact hc _; rotate_right; focus ((repeat' (first | exact FzL.nil | exact (by assumption : FzC _) _ | refine FzL.cons ?_ ?_ | exact Fz.of rfl | exact Fz.nil | exact Fz.emp | (apply Fz.fnC; assumption) | (apply Fz.sl2; exact rfl; exact (by first | omega | (simp; done) | (simp; omega)); first | exact rfl | exact dt_full (by first | omega | (simp; done) | (simp; omega)) | assumption) | apply Fz.agg | (apply Fz.ptrL; exact rfl; first | exact rfl | assumption) | apply Fz.fnL)); done))); (try simp only [put, rowsOf, plR, selE, ovr, setH, del, cellsA, splice, isV, spq, if_true, if_false]))
    | (show AW _ _ _ _ _ _ _ _; first | refine aw_region ?_ | (refine aw_seqk ?_; intro K hK) | refine aw_block ?_ | (apply aw_cond_t; exact rfl; exact (by assumption)) | (apply aw_cond_f; exact rfl; exact (by assumption)) | refine aw_skip ?_)
    | refine thn_n ?_
    | (refine hK _ _ _ ?_; clear hK K)
    | refine inb_n ?_)); all_goals (repeat (clear hK K)))
      refine ⟨i + 1, id, ⟨c2, takeS c2 hp c3⟩, by omega, ⟨lk_i rfl (by rw [IntWalk.i64_in _ (by omega)]; rfl), lk_i rfl rfl, lk_f rfl (renL_id caps) hcap, lk_d rfl rfl, trivial⟩, trivial, rfl, pin_0⟩
  · have b2 : decide ((i : Int) < (xs.length : Int)) = false := by simpa using c2
    ((repeat' (first
    | (show SQ _ _ _ _ _ _ _ _; first | apply sq_nil | (apply q_assign; exact rfl; exact rfl) | (apply q_lss; iterate 3 exact rfl))
    | (show AW _ _ _ _ _ _ _ _; first | refine aw_region ?_ | (refine aw_seqk ?_; intro K hK) | (apply aw_cond_f; exact rfl; exact (by assumption)) | refine aw_ret ?_ | refine aw_exit ?_)
    | refine thn_n ?_
    | (refine hK _ _ _ ?_; clear hK K)
    | refine thn_e ?_
    | refine inb_same ?_
    | (clear hK K; refine hK _ _ _ ?_; clear hK K))); all_goals (repeat (clear hK K)))
    all_goals refine fin_r (fin_i rfl ?_)
    rw [List.take_of_length_le (by omega)] at hp
    exact (ixG_none p xs hp).symm
set_option maxHeartbeats 4000000 in
theorem IndexFuncInt_ro (xs : List Int) (rows : List (List AV)) (f : FuncId) (caps : List AV) (p : Int → Bool) (hcap : idsOkL 0 caps = true) (hz : FzC caps) (hrows : rows = xs.map inL) (hf : ∀ x ∈ xs, ∀ m, RO Try.prog f ((.v (.int .i64 x)) :: caps) m (.v (.bool (p x))) [] m) (hn : xs.length ≤ 1048576) (k : Nat) :
    RO Try.prog 105 [.dsl 1 rows, .fn f caps] k (.v (.int .i64 (ixG p xs))) [] k := by
  subst hrows
  refine RO.ofv' Try.func105 Try.ntmps105 rfl (goFn_of Try.func105 rfl (by kernel_rfl)) rfl rfl ?_
  ((repeat' (first
    | (show SQ _ _ _ _ _ _ _ _; first | apply sq_nil | (apply q_move; exact rfl; exact rfl) | (apply q_assign; exact rfl; exact rfl) | (apply q_lend; exact rfl; exact rfl; exact (ty rfl); exact rfl))
    | (show AW _ _ _ _ _ _ _ _; first | refine aw_region ?_ | (refine aw_seqk ?_; intro K hK) | refine aw_block ?_)
    | refine thn_n ?_
    | (refine hK _ _ _ ?_; clear hK K))); all_goals (repeat (clear hK K)))
  refine aw_loop (ρ := id) (ι := Nat) (fun i => ([(8, .v (.int .i64 i)), (7, .v (.int .i64 xs.length)), (1, .fn f caps), (0, .dsl 1 (xs.map inL))], [], 0))
    (fun i => i ≤ xs.length ∧ ∀ y ∈ xs.take i, p y = false) (fun i => xs.length - i) 0 ⟨Nat.zero_le _, by simp⟩ ⟨⟨lk_i rfl rfl, lk_i rfl (by simp), lk_f rfl (renL_id caps) hcap, lk_d rfl rfl, trivial⟩, trivial, rfl, pin_0⟩ ?_
  rintro i ⟨hi, hp⟩
  by_cases c2 : i < xs.length
  · have b2 : decide ((i : Int) < (xs.length : Int)) = true := by simpa using c2
    have hrow : (xs.map inL)[((i : Int)).toNat]? = some (inL xs[i]) := by simp [c2]
    try rw [inL_eq] at hrow
    have hc := hf xs[i] (List.getElem_mem c2)
    by_cases c3 : p xs[i] = true
    · ((repeat' (first
    | (show SQ _ _ _ _ _ _ _ _; first | apply sq_nil | (apply q_move; exact rfl; exact rfl) | (apply q_assign; exact rfl; exact rfl) | (apply q_lss; iterate 3 exact rfl) | (apply q_ixd; (iterate 3 exact rfl); exact (ty rfl); exact rfl; exact (by first | omega | (simp; done) | (simp; omega)); exact (by first | omega | (simp; done) | (simp; omega)); exact (by first | rfl | assumption)) | (apply q_ld1d; exact rfl; exact rfl; exact (ty rfl); exact rfl; exact rfl))
    | (show SQ _ _ _ _ _ _ _ _; (first | (apply q_callU; (iterate 3 exact rfl); rotate_left; exact hc _; rotate_right; focus ((repeat' (first | exact FzL.nil | exact (by assumption : FzC _) _ | refine FzL.cons ?_ ?_ | exact Fz.of rfl | exact Fz.nil | exact Fz.emp | (apply Fz.fnC; assumption) | (apply Fz.sl2; exact rfl; exact (by first | omega | (simp; done) | (simp; omega)); first | exact rfl | exact dt_full (by first | omega | (simp; done) | (simp; omega)) | assumption) | apply Fz.agg | (apply Fz.ptrL; exact rfl; first | exact rfl | assumption) | apply Fz.fnL)); done))); (try simp only [put, rowsOf, plR, selE, ovr, setH, del, cellsA, splice, isV, spq, if_true, if_false]))
    | (show AW _ _ _ _ _ _ _ _; first | refine aw_region ?_ | (refine aw_seqk ?_; intro K hK) | refine aw_block ?_ | (apply aw_cond_t; exact rfl; exact (by assumption)) | refine aw_ret ?_ | refine aw_skip ?_)
    | refine thn_n ?_
    | (refine hK _ _ _ ?_; clear hK K)
    | refine thn_r ?_
    | refine inb_r ?_)); all_goals (repeat (clear hK K)))
      all_goals refine fin_r (fin_i rfl ?_)
      exact (ixG_hit c2 hp c3).symm
    · have c3 : p xs[i] = false := by simpa using c3
      ((repeat' (first
    | (show SQ _ _ _ _ _ _ _ _; first | apply sq_nil | (apply q_move; exact rfl; exact rfl) | (apply q_assign; exact rfl; exact rfl) | (apply q_add; iterate 3 exact rfl) | (apply q_lss; iterate 3 exact rfl) | (apply q_ixd; (iterate 3 exact rfl); exact (ty rfl); exact rfl; exact (by first | omega | (simp; done) | (simp; omega)); exact (by first | omega | (simp; done) | (simp; omega)); exact (by first | rfl | assumption)) | (apply q_ld1d; exact rfl; exact rfl; exact (ty rfl); exact rfl; exact rfl))
    | (show SQ _ _ _ _ _ _ _ _; (first | (apply q_callU; (iterate 3 exact rfl); rotate_left; exact hc _; rotate_right; focus ((repeat' (first | exact FzL.nil | exact (by assumption : FzC _) _ | refine FzL.cons ?_ ?_ | exact Fz.of rfl | exact Fz.nil | exact Fz.emp | (apply Fz.fnC; assumption) | (apply Fz.sl2; exact rfl; exact (by first | omega | (simp; done) | (simp; omega)); first | exact rfl | exact dt_full (by first | omega | (simp; done) | (simp; omega)) | assumption) | apply Fz.agg | (apply Fz.ptrL; exact rfl; first | exact rfl | assumption) | apply Fz.fnL)); done))); (try simp only [put, rowsOf, plR, selE, ovr, setH, del, cellsA, splice, isV, spq, if_true, if_false]))
    | (show AW _ _ _ _ _ _ _ _; first | refine aw_region ?_ | (refine aw_seqk ?_; intro K hK) | refine aw_block ?_ | (apply aw_cond_t; exact rfl; exact (by assumption)) | (apply aw_cond_f; exact rfl; exact (by assumption)) | refine aw_skip ?_)
    | refine thn_n ?_
    | (refine hK _ _ _ ?_; clear hK K)
    | refine inb_n ?_)); all_goals (repeat (clear hK K)))
      refine ⟨i + 1, id, ⟨c2, takeS c2 hp c3⟩, by omega, ⟨lk_i rfl (by rw [IntWalk.i64_in _ (by omega)]; rfl), lk_i rfl rfl, lk_f rfl (renL_id caps) hcap, lk_d rfl rfl, trivial⟩, trivial, rfl, pin_0⟩
  · have b2 : decide ((i : Int) < (xs.length : Int)) = false := by simpa using c2
    ((repeat' (first
    | (show SQ _ _ _ _ _ _ _ _; first | apply sq_nil | (apply q_assign; exact rfl; exact rfl) | (apply q_lss; iterate 3 exact rfl))
    | (show AW _ _ _ _ _ _ _ _; first | refine aw_region ?_ | (refine aw_seqk ?_; intro K hK) | (apply aw_cond_f; exact rfl; exact (by assumption)) | refine aw_ret ?_ | refine aw_exit ?_)
    | refine thn_n ?_
    | (refine hK _ _ _ ?_; clear hK K)
    | refine thn_e ?_
    | refine inb_same ?_
    | (clear hK K; refine hK _ _ _ ?_; clear hK K))); all_goals (repeat (clear hK K)))
    all_goals refine fin_r (fin_i rfl ?_)
    rw [List.take_of_length_le (by omega)] at hp
    exact (ixG_none p xs hp).symm
set_option maxHeartbeats 4000000 in
theorem ContainsFuncInt_ro (xs : List Int) (rows : List (List AV)) (f : FuncId) (caps : List AV) (p : Int → Bool) (hcap : idsOkL 0 caps = true) (hz : FzC caps) (hrows : rows = xs.map inL) (hf : ∀ x ∈ xs, ∀ m, RO Try.prog f (.v (.int .i64 x) :: caps) m (.v (.bool (p x))) [] m) (hn : xs.length ≤ 1048576) (k : Nat) :
    RO Try.prog 101 [.dsl 1 rows, .fn f caps] k (.v (.bool (xs.any p))) [] k := by
  refine RO.ofv' Try.func101 Try.ntmps101 rfl (goFn_of Try.func101 rfl (by kernel_rfl)) rfl rfl ?_
  ((repeat' (first
    | (show SQ _ _ _ _ _ _ _ _; first | apply sq_nil | (apply q_move; exact rfl; exact rfl) | (apply q_assign; exact rfl; exact rfl) | (apply q_geq; iterate 3 exact rfl))
    | (show SQ _ _ _ _ _ _ _ _; (first | (apply q_callU; (iterate 3 exact rfl); rotate_left; exact IndexFuncInt_ro xs rows f caps p hcap hz hrows hf hn _; rotate_right; focus ((repeat' (first | exact FzL.nil | exact (by assumption : FzC _) _ | refine FzL.cons ?_ ?_ | exact Fz.of rfl | exact Fz.nil | exact Fz.emp | (apply Fz.fnC; assumption) | (apply Fz.sl2; exact rfl; exact (by first | omega | (simp; done) | (simp; omega)); first | exact rfl | exact dt_full (by first | omega | (simp; done) | (simp; omega)) | assumption) | apply Fz.agg | (apply Fz.ptrL; exact rfl; first | exact rfl | assumption) | apply Fz.fnL)); done))); (try simp only [put, rowsOf, plR, selE, ovr, setH, del, cellsA, splice, isV, spq, if_true, if_false]))
    | (show AW _ _ _ _ _ _ _ _; first | refine aw_region ?_ | (refine aw_seqk ?_; intro K hK) | refine aw_ret ?_)
    | refine thn_n ?_
    | (refine hK _ _ _ ?_; clear hK K))); all_goals (repeat (clear hK K)))
  all_goals refine fin_r (fin_b rfl ?_)
  exact ixG_any p xs
set_option maxHeartbeats 4000000 in
theorem awClosure_ro (x lo hi : Int) (k : Nat) : RO Try.prog 102 [.v (.int .i64 x), .dptr [.v (.int .i64 lo)], .dptr [.v (.int .i64 hi)]] k (.v (.bool (!inB x lo hi))) [] k := by
  refine RO.ofv' Try.func102 Try.ntmps102 rfl (goFn_of Try.func102 rfl (by kernel_rfl)) rfl rfl ?_
  ((repeat' (first
    | (show SQ _ _ _ _ _ _ _ _; first | apply sq_nil | (apply q_move; exact rfl; exact rfl) | (apply q_assign; exact rfl; exact rfl) | (apply q_not; exact rfl; exact rfl) | (apply q_ld1d; exact rfl; exact rfl; exact (ty rfl); exact rfl; exact rfl))
    | (show SQ _ _ _ _ _ _ _ _; (first | (apply q_callU; (iterate 3 exact rfl); exact FzL.of rfl; exact within_ro _ _ _ _)); (try simp only [put, rowsOf, plR, selE, ovr, setH, del, cellsA, splice, isV, spq, if_true, if_false]))
    | (show AW _ _ _ _ _ _ _ _; first | refine aw_region ?_ | (refine aw_seqk ?_; intro K hK) | refine aw_ret ?_)
    | refine thn_n ?_
    | (refine hK _ _ _ ?_; clear hK K))); all_goals (repeat (clear hK K)))
  all_goals exact fin_r (fin_b rfl rfl)
set_option maxHeartbeats 4000000 in
theorem allWithin_ro (xs : List Int) (rows : List (List AV)) (lo hi : Int) (hrows : rows = xs.map inL) (hn : xs.length ≤ 1048576) (k : Nat) : RO Try.prog 63 [.dsl 1 rows, .v (.int .i64 lo), .v (.int .i64 hi)] k (.v (.bool (!xs.any fun x => !inB x lo hi))) [] k := by
  have hC := ContainsFuncInt_ro xs rows 102 [.dptr [.v (.int .i64 lo)], .dptr [.v (.int .i64 hi)]] (fun x => !inB x lo hi) rfl (fun H => FzL.of rfl) hrows (fun x _ m => awClosure_ro x lo hi m) hn
  refine RO.ofv' Try.func63 Try.ntmps63 rfl (goFn_of Try.func63 rfl (by kernel_rfl)) rfl rfl ?_
  ((repeat' (first
    | (show SQ _ _ _ _ _ _ _ _; first | apply sq_nil | (apply q_move; exact rfl; exact rfl) | (apply q_assign; exact rfl; exact rfl) | (apply q_not; exact rfl; exact rfl) | (apply q_mkf; exact rfl; exact rfl))
    | (show SQ _ _ _ _ _ _ _ _; (first | (apply q_box; iterate 3 exact rfl) | (apply q_callU; (iterate 3 exact rfl); exact FzL.of rfl; exact hC _)); (try simp only [put, rowsOf, plR, selE, ovr, setH, del, cellsA, splice, isV, spq, if_true, if_false]))
    | (show AW _ _ _ _ _ _ _ _; first | refine aw_region ?_ | (refine aw_seqk ?_; intro K hK) | refine aw_ret ?_)
    | refine thn_n ?_
    | (refine hK _ _ _ ?_; clear hK K))); all_goals (repeat (clear hK K)))
  all_goals exact fin_r (fin_b rfl rfl)
def othV (x : Int) (l : Ln) : Int := if x = l.a then l.b else if x = l.b then l.a else 0
def othB (x : Int) (l : Ln) : Bool := x == l.a || x == l.b
theorem oth_link (x y : Int) (l : Ln) : (othB x l && othV x l == y) = linkP x y l := by
  unfold othB othV linkP
  grind
set_option maxHeartbeats 4000000 in
theorem other_ro (x : Int) (l : Ln) (k : Nat) : RO Try.prog 92 [.agg (lnL l), .v (.int .i64 x)] k (.tup [.v (.int .i64 (othV x l)), .v (.bool (othB x l))]) [] k := by
  have hv : (x == l.a) = true → othV x l = l.b := by intro h; simp at h; simp [othV, h]
  have hv2 : (x == l.a) = false → (x == l.b) = true → othV x l = l.a := by intro h h2; simp at h h2; simp [othV, h, h2]
  have hv3 : (x == l.a) = false → (x == l.b) = false → othV x l = 0 := by intro h h2; simp at h h2; simp [othV, h, h2]
  refine RO.ofp Try.func92 Try.ntmps92 rfl (goFn_of Try.func92 rfl (by kernel_rfl)) rfl rfl rfl ?_
  unfold lnL
  ((repeat' (first
    | (show SQ _ _ _ _ _ _ _ _; first | apply sq_nil | (apply q_move; exact rfl; exact rfl) | (apply q_assign; exact rfl; exact rfl) | (apply q_fieldAddr; exact rfl; exact rfl; exact (ty rfl); iterate 4 exact rfl) | (apply q_eql; iterate 3 exact rfl) | (apply q_ld1p; exact rfl; exact rfl; exact (ty rfl); exact rfl; exact rfl; exact (by first | rfl | assumption | ((try simp only [Nat.zero_add]); refine List.getElem?_set_self ?_; (try simp only [List.length_set]); assumption)); exact rfl))
    | (show SQ _ _ _ _ _ _ _ _; (first | (apply q_box; iterate 3 exact rfl)); (try simp only [put, rowsOf, plR, selE, ovr, setH, del, cellsA, splice, isV, spq, if_true, if_false]))
    | (show AW _ _ _ _ _ _ _ _; first | refine aw_region ?_ | (refine aw_seqk ?_; intro K hK) | refine aw_block ?_ | refine aw_ret ?_ | refine aw_skip ?_ | (apply aw_ite; exact rfl; all_goals intro h))
    | refine thn_n ?_
    | (refine hK _ _ _ ?_; clear hK K)
    | refine thn_r ?_
    | refine inb_n ?_
    | refine inb_r ?_)); all_goals (repeat (clear hK K)))
  all_goals refine fin_r (fin_p (.r2 _ _ _ _ (.tmp _ _ rfl) (.tmp _ _ rfl)) ?_ rfl rfl rfl)
  all_goals simp_all [othB]
set_option maxHeartbeats 4000000 in
theorem loClosure_ro (rd : List Int) (l : Ln) (j : Nat) (h0 : 0 < j) (hj : j < rd.length) (hn : rd.length ≤ 1048576) (k : Nat) : RO Try.prog 115 [.agg (lnL l), .dptr [.dsl 1 (rd.map inL)], .dptr [.v (.int .i64 j)]] k (.v (.bool (linkP rd[j - 1] rd[j] l))) [] k := by
  have hw2 : IntKind.i64.wrap ((j : Int) - 1) = (j : Int) - 1 := IntWalk.i64_in _ (by omega)
  have hrow2 : (rd.map inL)[(IntKind.i64.wrap ((j : Int) - 1)).toNat]? = some (inL rd[j - 1]) := by
    rw [hw2, show ((j : Int) - 1).toNat = j - 1 by omega]; simp [show j - 1 < rd.length by omega]
  rw [inL_eq] at hrow2
  have hrow : (rd.map inL)[((j : Int)).toNat]? = some (inL rd[j]) := by simp [hj]
  rw [inL_eq] at hrow
  refine RO.ofv' Try.func115 Try.ntmps115 rfl (goFn_of Try.func115 rfl (by kernel_rfl)) rfl rfl ?_
  ((repeat' (first
    | (show SQ _ _ _ _ _ _ _ _; first | apply sq_nil | (apply q_move; exact rfl; exact rfl) | (apply q_assign; exact rfl; exact rfl) | (apply q_pick_t; (iterate 3 exact rfl); exact (by first | assumption | exact rfl)) | (apply q_pick_f; (iterate 3 exact rfl); exact (by first | assumption | exact rfl)) | (apply q_eql; iterate 3 exact rfl) | (apply q_ixd; (iterate 3 exact rfl); exact (ty rfl); exact rfl; exact (by first | omega | (simp; done) | (simp; omega)); exact (by first | omega | (simp; done) | (simp; omega)); exact (by first | rfl | assumption)) | (apply q_ld1d; exact rfl; exact rfl; exact (ty rfl); exact rfl; exact rfl) | (apply q_g; (iterate 3 exact rfl); exact (by assumption)) | (apply q_s; (iterate 3 exact rfl); exact (by assumption); exact rfl))
    | (show SQ _ _ _ _ _ _ _ _; (first | (apply q_box; iterate 3 exact rfl)); (try simp only [put, rowsOf, plR, selE, ovr, setH, del, cellsA, splice, isV, spq, if_true, if_false]))
    | (show SQ _ _ _ _ _ _ _ _; apply q_gs; (iterate 4 exact rfl); all_goals intro h)
    | (show DE _ _ _ _ _ _ _ _ _ _ _ _; first | (apply e_move; iterate 3 exact rfl) | (apply e_assign; iterate 3 exact rfl) | (apply e_ext; iterate 4 exact rfl) | (apply e_sub; iterate 4 exact rfl) | (apply e_ixd; (iterate 3 exact rfl); exact (ty rfl); exact rfl; exact (by first | omega | (simp; done) | (simp; omega)); exact (by first | omega | (simp; done) | (simp; omega)); exact (by first | rfl | assumption); exact rfl) | (apply e_ld1d; exact rfl; exact rfl; exact (ty rfl); iterate 3 exact rfl))
    | (show DE _ _ _ _ _ _ _ _ _ _ _ _; (first | (apply dr_nil; exact trivial) | (apply e_ldap; exact rfl; exact rfl; exact (ty rfl); exact rfl; exact rfl; exact (by first | rfl | assumption | ((try simp only [Nat.zero_add]); refine List.getElem?_set_self ?_; (try simp only [List.length_set]); assumption)); exact rfl; exact rfl) | (apply e_callU; (iterate 3 exact rfl); exact FzL.of rfl; exact other_ro _ _ _; exact rfl)); (try simp only [put, rowsOf, plR, selE, ovr, setH, del, cellsA, splice, isV, spq, if_true, if_false]))
    | (show AW _ _ _ _ _ _ _ _; first | refine aw_region ?_ | (refine aw_seqk ?_; intro K hK) | refine aw_ret ?_ | refine aw_drawE (id := 1) [0, 0, 0, 4, 14, 30, 63, 127, 255, 255, 511, 2047] [1, 1, 1, 0, 0, 1, 1, 0, 0, 0, 0, 0] mixed (by kernel_rfl) ?_)
    | refine thn_n ?_
    | (refine hK _ _ _ ?_; clear hK K))); all_goals (repeat (clear hK K)))
  all_goals refine fin_r (fin_b rfl ?_)
  all_goals (rw [← oth_link]; simp_all)
end Go.Proofs.Ytglfcaioapdiaaa.Bk

namespace Go.Proofs.Ytglfcaioapdiaaa.Bk
open Go Go.RowKit Go.Proofs.Ytglfcaioapdiaaa.Aw
set_option linter.unusedSimpArgs false
set_option linter.unusedVariables false
attribute [local irreducible] AW SQ Step RO RC DE Thn InB
structure Wy where
  p : List Int
  c : Int
  f : Bool
def wyz : Wy := ⟨[], 0, false⟩
def lessL : List Int → List Int → Bool
  | x :: xs, y :: ys => if x = y then lessL xs ys else decide (x < y)
  | _, _ => false
def better (a b : Wy) : Bool := if b.f = false then true else if a.c = b.c then (if (a.p.length : Int) = (b.p.length : Int) then lessL a.p b.p else decide ((a.p.length : Int) < (b.p.length : Int))) else decide (a.c < b.c)
end Go.Proofs.Ytglfcaioapdiaaa.Bk

namespace Go.Proofs.Ytglfcaioapdiaaa.Bk
open Go Go.RowKit Go.Proofs.Ytglfcaioapdiaaa.Aw
set_option linter.unusedSimpArgs false
set_option linter.unusedVariables false
attribute [local irreducible] AW SQ Step RO RC DE Thn InB
theorem pigeon : ∀ (m : Nat) (l : List Int), l.Nodup → (∀ x ∈ l, 0 ≤ x ∧ x < (m : Int)) → l.length ≤ m
  | 0, [], _, _ => Nat.le_refl _
  | 0, x :: l, _, h => by have := h x List.mem_cons_self; omega
  | m + 1, l, hd, h => by
    have ih := pigeon m (l.erase (m : Int)) (hd.erase _) (fun x hx => by
      have h1 := (hd.mem_erase_iff).1 hx
      have h2 := h x h1.2
      have h3 := h1.1
      refine ⟨h2.1, ?_⟩
      have := h2.2
      omega)
    have := List.length_erase (a := (m : Int)) (l := l)
    split at this <;> omega
def GoodN (n : Int) (nodes : List Int) : Prop := nodes.Nodup ∧ ∀ x ∈ nodes, 0 ≤ x ∧ x < n
theorem GoodN.le {n : Int} {nodes : List Int} (h0 : 0 ≤ n) (h : GoodN n nodes) : nodes.length ≤ n.toNat :=
  pigeon _ _ h.1 fun x hx => by have := h.2 x hx; omega
def stepN (ls : List Ln) (cur : Int) (nodes : List Int) (x : Int) : List Int :=
  if othB cur (ls.getD x.toNat lnz) && !(nodes.any fun y => y == othV cur (ls.getD x.toNat lnz)) then nodes ++ [othV cur (ls.getD x.toNat lnz)] else nodes
def rIn (ls : List Ln) (cur : Int) (ix : List Int) (nodes : List Int) (i : Nat) : List Int := (ix.take i).foldl (stepN ls cur) nodes
theorem rIn_succ {ls : List Ln} {cur : Int} {ix nodes : List Int} {i : Nat} (h : i < ix.length) : rIn ls cur ix nodes (i + 1) = stepN ls cur (rIn ls cur ix nodes i) ix[i] := by
  rw [rIn, List.take_succ_eq_append_getElem h, List.foldl_append]; rfl
def reachF (ls : List Ln) (ix : List Int) : Nat → Nat → List Int → List Int
  | 0, _, nodes => nodes
  | f + 1, k, nodes => if k < nodes.length then reachF ls ix f (k + 1) (rIn ls (nodes.getD k 0) ix nodes ix.length) else nodes
def reachV (n : Int) (ls : List Ln) (ix : List Int) (frm : Int) : List Int := reachF ls ix n.toNat 0 [frm]
theorem stepN_get {ls : List Ln} {cur x c : Int} {nodes : List Int} {k : Nat} (h : nodes[k]? = some c) : (stepN ls cur nodes x)[k]? = some c := by
  unfold stepN
  split
  · rw [List.getElem?_append_left (List.getElem?_eq_some_iff.1 h).1, h]
  · exact h
theorem foldN_get {ls : List Ln} {cur c : Int} {k : Nat} : ∀ (ix nodes : List Int), nodes[k]? = some c → (ix.foldl (stepN ls cur) nodes)[k]? = some c
  | [], _, h => h
  | x :: ix, nodes, h => foldN_get ix _ (stepN_get h)
theorem othV_in {n x : Int} {l : Ln} (hL : 0 ≤ l.a ∧ l.a < n ∧ 0 ≤ l.b ∧ l.b < n) (h : othB x l = true) : 0 ≤ othV x l ∧ othV x l < n := by
  simp only [othB, Bool.or_eq_true, beq_iff_eq] at h
  unfold othV
  grind
theorem stepN_good {n : Int} {ls : List Ln} {cur x : Int} {nodes : List Int} (hL : ∀ l ∈ ls, 0 ≤ l.a ∧ l.a < n ∧ 0 ≤ l.b ∧ l.b < n) (hx : x.toNat < ls.length) (h : GoodN n nodes) : GoodN n (stepN ls cur nodes x) := by
  unfold stepN
  split
  · rename_i hc
    simp only [Bool.and_eq_true, Bool.not_eq_true', List.any_eq_false, beq_iff_eq] at hc
    have hl : ls.getD x.toNat lnz ∈ ls := by simp [List.getD, hx]
    have := othV_in (hL _ hl) hc.1
    refine ⟨List.nodup_append.2 ⟨h.1, by simp, fun a ha b hb => ?_⟩, fun y hy => ?_⟩
    · simp at hb; subst hb; intro e; exact hc.2 a ha e
    · rcases List.mem_append.1 hy with h1 | h1
      · exact h.2 y h1
      · simp at h1; subst h1; exact this
  · exact h
theorem rIn_good {n : Int} {ls : List Ln} {cur : Int} {ix nodes : List Int} (hL : ∀ l ∈ ls, 0 ≤ l.a ∧ l.a < n ∧ 0 ≤ l.b ∧ l.b < n) (hix : ∀ x ∈ ix, 0 ≤ x ∧ x < ls.length) (h : GoodN n nodes) : ∀ i, i ≤ ix.length → GoodN n (rIn ls cur ix nodes i)
  | 0, _ => by simpa [rIn] using h
  | i + 1, hi => by
    rw [rIn_succ (by omega)]
    have := hix ix[i] (List.getElem_mem _)
    exact stepN_good hL (by omega) (rIn_good hL hix h i (by omega))
end Go.Proofs.Ytglfcaioapdiaaa.Bk

namespace Go.Proofs.Ytglfcaioapdiaaa.Bk
open Go Go.RowKit Go.Proofs.Ytglfcaioapdiaaa.Aw
set_option linter.unusedSimpArgs false
set_option linter.unusedVariables false
attribute [local irreducible] AW SQ Step RO RC DE Thn InB
def part0 (i : Nat) : List Int := (List.range i).map fun x : Nat => (x : Int)
theorem part0_len (i : Nat) : (part0 i).length = i := by simp [part0]
def relab (x y : Int) (p : List Int) : List Int := p.map fun v => if v = y then x else v
def partS (ls : List Ln) (may : List Bool) (p : List Int) (i : Nat) : List Int :=
  if may.getD i false then relab (p.getD (ls.getD i lnz).a.toNat 0) (p.getD (ls.getD i lnz).b.toNat 0) p else p
def parts (n : Int) (ls : List Ln) (may : List Bool) : Nat → List Int
  | 0 => part0 n.toNat
  | i + 1 => partS ls may (parts n ls may i) i
end Go.Proofs.Ytglfcaioapdiaaa.Bk

namespace Go.Proofs.Ytglfcaioapdiaaa.Aw
open Go Go.RowKit
set_option linter.unusedVariables false
set_option linter.unusedSimpArgs false
section
variable {P : Program} {H : Hp} {N n g : Nat} {T : Tp} {all : Array Oper} {l : List Oper} {G : Tp → Hp → Nat → Prop}
end
section
variable {P : Program} {N n n' : Nat} {all : Array Oper} {l : List Oper} {G : Tp → Hp → Nat → Prop} {T : Tp} {H : Hp} {bs ks : List Nat} {i : Nat} {eff : List (Nat × List (Nat × Option Blk))} {ty : TypeId} {pos : String} {after : Array Edge} {d : Nat}
end
theorem WkC.same (cv : AV) : WkC cv cv := .inl rfl
theorem WkC.nil (s : Nat) : WkC (.v (.slice none 0 0)) (.dsl s []) := .inr ⟨s, rfl, rfl⟩
end Go.Proofs.Ytglfcaioapdiaaa.Aw

namespace Go.Proofs.Ytglfcaioapdiaaa.Bk
open Go Go.RowKit Go.Proofs.Ytglfcaioapdiaaa.Aw
set_option linter.unusedSimpArgs false
set_option linter.unusedVariables false
attribute [local irreducible] AW SQ Step RO RC DE Thn InB
def nextW (W : List Wy) (x y cost : Int) : Wy := ⟨(W.getD x.toNat wyz).p ++ [y], (W.getD x.toNat wyz).c + cost, true⟩
def relaxW (W : List Wy) (x y cost : Int) : List Wy :=
  if (W.getD x.toNat wyz).f = true ∧ ((W.getD x.toNat wyz).p.any fun z => z == y) = false ∧ better (nextW W x y cost) (W.getD y.toNat wyz) = true then W.set y.toNat (nextW W x y cost) else W
def twoW (W : List Wy) (a b cost : Int) : Nat → List Wy
  | 0 => W
  | 1 => relaxW W a b cost
  | _ => relaxW (relaxW W a b cost) b a cost
def costW (counts : Bool) (l : Ln) : Int := if counts then l.o else 0
def linkW (counts : Bool) (W : List Wy) (l : Ln) (m : Bool) : List Wy := if m then twoW W l.a l.b (costW counts l) 2 else W
def turnW (ls : List Ln) (may : List Bool) (counts : Bool) (W : List Wy) : Nat → List Wy
  | 0 => W
  | i + 1 => linkW counts (turnW ls may counts W i) (ls.getD i lnz) (may.getD i false)
def ways0 (n frm : Int) : List Wy := (List.replicate n.toNat wyz).set frm.toNat ⟨[frm], 0, true⟩
def waysN (n : Int) (ls : List Ln) (may : List Bool) (counts : Bool) (frm : Int) : Nat → List Wy
  | 0 => ways0 n frm
  | t + 1 => turnW ls may counts (waysN n ls may counts frm t) ls.length
def routeW (n : Int) (ls : List Ln) (may : List Bool) (counts : Bool) (frm to : Int) : Wy := (waysN n ls may counts frm n.toNat).getD to.toNat wyz
structure GoodY (n : Int) (w : Wy) : Prop where
  nd : w.p.Nodup
  rng : ∀ x ∈ w.p, 0 ≤ x ∧ x < n
  c0 : 0 ≤ w.c
  c1 : w.c ≤ 1000000 * (w.p.length : Int)
structure GoodW (n : Int) (W : List Wy) : Prop where
  len : W.length = n.toNat
  all : ∀ i, i < n.toNat → GoodY n (W.getD i wyz)
theorem GoodY.z (n : Int) : GoodY n wyz := ⟨List.nodup_nil, by simp [wyz], by simp [wyz], by simp [wyz]⟩
theorem GoodY.le {n : Int} {w : Wy} (hn : 0 ≤ n) (h : GoodY n w) : w.p.length ≤ n.toNat := pigeon _ _ h.nd fun x hx => by have := h.rng x hx; omega
theorem GoodW.at {n : Int} {W : List Wy} (h : GoodW n W) (i : Nat) : GoodY n (W.getD i wyz) := by
  by_cases hi : i < n.toNat
  · exact h.all i hi
  · have : W.getD i wyz = wyz := by simp [List.getD, List.getElem?_eq_none (show W.length ≤ i by rw [h.len]; omega)]
    rw [this]; exact GoodY.z n
theorem GoodW.set {n : Int} {W : List Wy} (h : GoodW n W) (j : Nat) {w : Wy} (hw : GoodY n w) : GoodW n (W.set j w) := by
  refine ⟨by simp [h.len], fun i hi => ?_⟩
  have := h.at i
  simp only [List.getD, List.getElem?_set] at this ⊢
  split
  · split
    · exact hw
    · exact GoodY.z n
  · exact this
def LnsOk (n : Int) (ls : List Ln) : Prop := ∀ l ∈ ls, (0 ≤ l.a ∧ l.a < n) ∧ (0 ≤ l.b ∧ l.b < n) ∧ (0 ≤ l.o ∧ l.o ≤ 1000000)
end Go.Proofs.Ytglfcaioapdiaaa.Bk

namespace Go.Proofs.Ytglfcaioapdiaaa.Bk
open Go
set_option linter.unusedSimpArgs false
set_option linter.unusedVariables false
theorem lessL_irrefl : ∀ p : List Int, lessL p p = false
  | [] => rfl
  | x :: p => by simp only [lessL, if_true]; exact lessL_irrefl p
theorem lessL_nt : ∀ r q p : List Int, r.length = q.length → q.length = p.length → lessL r p = true → lessL r q = true ∨ lessL q p = true
  | [], [], [], _, _, h => by simp [lessL] at h
  | x :: r, y :: q, z :: p, h1, h2, h => by
    have ih := lessL_nt r q p (by simpa using h1) (by simpa using h2)
    simp only [lessL] at h ⊢
    by_cases a : x = z
    · subst a
      rw [if_pos rfl] at h
      by_cases b : x = y
      · subst b; rw [if_pos rfl, if_pos rfl]; exact ih h
      · rw [if_neg b, if_neg (fun e => b e.symm)]
        simp only [decide_eq_true_eq]; omega
    · rw [if_neg a] at h
      simp only [decide_eq_true_eq] at h
      by_cases b : x = y
      · subst b; rw [if_neg a]; right; simpa using h
      · by_cases c : y = z
        · subst c; rw [if_neg b]; left; simpa using h
        · rw [if_neg b, if_neg c]; simp only [decide_eq_true_eq]; omega
theorem lessL_asymm : ∀ p q : List Int, lessL p q = true → lessL q p = false
  | [], [], h => rfl
  | [], _ :: _, h => rfl
  | _ :: _, [], h => rfl
  | x :: p, y :: q, h => by
    simp only [lessL] at h ⊢
    by_cases a : x = y
    · subst a; rw [if_pos rfl] at h ⊢; exact lessL_asymm p q h
    · rw [if_neg a] at h
      rw [if_neg (fun e => a e.symm)]
      simp only [decide_eq_true_eq, decide_eq_false_iff_not] at h ⊢
      omega
theorem lessL_app (y : Int) : ∀ p q : List Int, p.length = q.length → lessL (p ++ [y]) (q ++ [y]) = lessL p q
  | [], [], _ => by simp [lessL]
  | x :: p, z :: q, h => by
    simp only [List.cons_append, lessL]
    rw [lessL_app y p q (by simpa using h)]
def ltK (a b : Wy) : Prop := a.c < b.c ∨ (a.c = b.c ∧ (a.p.length < b.p.length ∨ (a.p.length = b.p.length ∧ lessL a.p b.p = true)))
def leK (a b : Wy) : Prop := ¬ ltK b a
theorem better_iff {a b : Wy} (hb : b.f = true) : better a b = true ↔ ltK a b := by
  unfold better ltK
  rw [hb]
  simp only [Bool.true_eq_false, if_false]
  by_cases h1 : a.c = b.c
  · rw [if_pos h1]
    by_cases h2 : (a.p.length : Int) = (b.p.length : Int)
    · rw [if_pos h2]
      have h3 : a.p.length = b.p.length := by omega
      simp [h1, h3]
    · rw [if_neg h2]
      have h3 : a.p.length ≠ b.p.length := by omega
      simp only [decide_eq_true_eq, h1, h3, false_and, or_false, true_and]
      omega
  · rw [if_neg h1]
    simp [h1]
theorem ltK_le {a b : Wy} (h : ltK a b) : leK a b := by
  intro h2
  unfold ltK at h h2
  rcases h with u | ⟨e, u⟩ <;> rcases h2 with v | ⟨e', v⟩
  · omega
  · omega
  · omega
  · rcases u with u | ⟨el, u⟩ <;> rcases v with v | ⟨el', v⟩
    · omega
    · omega
    · omega
    · rw [lessL_asymm _ _ u] at v; cases v
theorem leK_refl (a : Wy) : leK a a := by
  unfold leK ltK
  rw [lessL_irrefl]
  simp
theorem leK_trans {a b c : Wy} (h1 : leK a b) (h2 : leK b c) : leK a c := by
  intro h
  have : ltK c b ∨ ltK b a := by
    unfold ltK at h ⊢
    rcases h with h | ⟨e, h⟩
    · by_cases q : c.c < b.c
      · exact .inl (.inl q)
      · exact .inr (.inl (by omega))
    · by_cases q : c.c < b.c
      · exact .inl (.inl q)
      by_cases q2 : b.c < a.c
      · exact .inr (.inl q2)
      have e1 : c.c = b.c := by omega
      have e2 : b.c = a.c := by omega
      rcases h with h | ⟨el, h⟩
      · by_cases q3 : c.p.length < b.p.length
        · exact .inl (.inr ⟨e1, .inl q3⟩)
        · exact .inr (.inr ⟨e2, .inl (by omega)⟩)
      · by_cases q3 : c.p.length < b.p.length
        · exact .inl (.inr ⟨e1, .inl q3⟩)
        by_cases q4 : b.p.length < a.p.length
        · exact .inr (.inr ⟨e2, .inl q4⟩)
        have l1 : c.p.length = b.p.length := by omega
        have l2 : b.p.length = a.p.length := by omega
        rcases lessL_nt _ _ _ l1 l2 h with h | h
        · exact .inl (.inr ⟨e1, .inr ⟨l1, h⟩⟩)
        · exact .inr (.inr ⟨e2, .inr ⟨l2, h⟩⟩)
  rcases this with h | h
  · exact h2 h
  · exact h1 h
theorem leK_app {a b : Wy} {y o : Int} {f g : Bool} (h : leK a b) : leK ⟨a.p ++ [y], a.c + o, f⟩ ⟨b.p ++ [y], b.c + o, g⟩ := by
  intro hh
  refine h ?_
  unfold ltK at hh ⊢
  simp only [List.length_append, List.length_singleton] at hh
  rcases hh with hh | ⟨e, hh | ⟨el, hh⟩⟩
  · exact .inl (by omega)
  · exact .inr ⟨by omega, .inl (by omega)⟩
  · rw [lessL_app _ _ _ (by omega)] at hh
    exact .inr ⟨by omega, .inr ⟨by omega, hh⟩⟩
def Lk (ls : List Ln) (may : List Bool) (counts : Bool) (x y o : Int) : Prop := ∃ i, ∃ h : i < ls.length, may.getD i false = true ∧ ((ls[i].a = x ∧ ls[i].b = y) ∨ (ls[i].a = y ∧ ls[i].b = x)) ∧ o = costW counts ls[i]
inductive Pt (E : Int → Int → Int → Prop) (s : Int) : List Int → Int → Int → Prop
  | one : Pt E s [s] 0 s
  | step {p : List Int} {c x y o : Int} (h : Pt E s p c x) (he : E x y o) (hy : y ∉ p) : Pt E s (p ++ [y]) (c + o) y
section
variable {E : Int → Int → Int → Prop} {s : Int}
theorem Pt.ne {p : List Int} {c x : Int} (h : Pt E s p c x) : p ≠ [] := by cases h <;> simp
theorem Pt.last {p : List Int} {c x : Int} (h : Pt E s p c x) : p.getLast? = some x := by cases h <;> simp
theorem Pt.nd {p : List Int} {c x : Int} (h : Pt E s p c x) : p.Nodup := by
  induction h with
  | one => simp
  | step h he hy ih => exact List.nodup_append.2 ⟨ih, by simp, fun a ha b hb => by simp at hb; subst hb; exact fun e => hy (e ▸ ha)⟩
theorem Pt.c0 (hE : ∀ x y o, E x y o → 0 ≤ o) {p : List Int} {c x : Int} (h : Pt E s p c x) : 0 ≤ c := by
  induction h with
  | one => exact Int.le_refl _
  | step h he hy ih => have := hE _ _ _ he; omega
theorem Pt.pre (hE : ∀ x y o, E x y o → 0 ≤ o) {p : List Int} {c x : Int} (h : Pt E s p c x) : ∀ y ∈ p, ∃ q t c', p = q ++ t ∧ Pt E s q c' y ∧ c' ≤ c := by
  induction h with
  | one => intro y hy; simp at hy; subst hy; exact ⟨[y], [], 0, rfl, .one, Int.le_refl _⟩
  | @step p c x z o h he hz ih =>
    intro y hy
    have := hE _ _ _ he
    rcases List.mem_append.1 hy with h1 | h1
    · obtain ⟨q, t, c', e, hq, hc⟩ := ih y h1
      exact ⟨q, t ++ [z], c', by rw [e, List.append_assoc], hq, by omega⟩
    · simp at h1; subst h1
      exact ⟨p ++ [y], [], c + o, by simp, .step h he hz, Int.le_refl _⟩
end
def wAt (W : List Wy) (z : Int) : Wy := W.getD z.toNat wyz
structure IW (E : Int → Int → Int → Prop) (s n : Int) (W : List Wy) : Prop where
  len : W.length = n.toNat
  sound : ∀ x, 0 ≤ x → x < n → (wAt W x).f = true → Pt E s (wAt W x).p (wAt W x).c x
  pre : ∀ x, 0 ≤ x → x < n → (wAt W x).f = true → ∀ y ∈ (wAt W x).p, ∃ q t c', (wAt W x).p = q ++ t ∧ Pt E s q c' y ∧ c' ≤ (wAt W x).c ∧ (wAt W y).f = true ∧ leK (wAt W y) ⟨q, c', true⟩
def LeW (n : Int) (W W' : List Wy) : Prop := ∀ z, 0 ≤ z → z < n → (wAt W z).f = true → (wAt W' z).f = true ∧ leK (wAt W' z) (wAt W z)
theorem LeW.refl (n : Int) (W : List Wy) : LeW n W W := fun z _ _ h => ⟨h, leK_refl _⟩
theorem LeW.trans {n : Int} {W W' W'' : List Wy} (h : LeW n W W') (g : LeW n W' W'') : LeW n W W'' := fun z h0 h1 hf => by
  obtain ⟨a, b⟩ := h z h0 h1 hf
  obtain ⟨c, d⟩ := g z h0 h1 a
  exact ⟨c, leK_trans d b⟩
theorem wAt_set {n : Int} {W : List Wy} (hl : W.length = n.toNat) {y : Int} (hy : 0 ≤ y ∧ y < n) (v : Wy) {z : Int} (hz : 0 ≤ z) (hz1 : z < n) : wAt (W.set y.toNat v) z = if z = y then v else wAt W z := by
  unfold wAt
  simp only [List.getD, List.getElem?_set]
  by_cases e : z = y
  · subst e; simp only [if_true]; rw [if_pos (by omega)]; rfl
  · rw [if_neg (by omega), if_neg e]
section
variable {E : Int → Int → Int → Prop} {s n : Int} (hE : ∀ x y o, E x y o → 0 ≤ o ∧ (0 ≤ x ∧ x < n) ∧ (0 ≤ y ∧ y < n)) (hs : 0 ≤ s ∧ s < n)
include hE hs
theorem Pt.rng {p : List Int} {c x : Int} (h : Pt E s p c x) : (∀ y ∈ p, 0 ≤ y ∧ y < n) ∧ 0 ≤ x ∧ x < n := by
  induction h with
  | one => exact ⟨fun y hy => by simp at hy; subst hy; exact hs, hs⟩
  | step h he hy ih =>
    obtain ⟨_, h1, h2⟩ := hE _ _ _ he
    refine ⟨fun z hz => ?_, h2⟩
    rcases List.mem_append.1 hz with hz | hz
    · exact ih.1 z hz
    · simp at hz; subst hz; exact h2
theorem relax_spec {W : List Wy} (hI : IW E s n W) {x y o : Int} (he : E x y o) : IW E s n (relaxW W x y o) ∧ LeW n W (relaxW W x y o) ∧
    ((wAt W x).f = true → ∀ q c, Pt E s q c x → leK (wAt W x) ⟨q, c, true⟩ → y ∉ q → (wAt (relaxW W x y o) y).f = true ∧ leK (wAt (relaxW W x y o) y) ⟨q ++ [y], c + o, true⟩) := by
  obtain ⟨o0, hx, hy⟩ := hE _ _ _ he
  have hE0 : ∀ x y o, E x y o → 0 ≤ o := fun x y o h => (hE x y o h).1
  by_cases hc : (wAt W x).f = true ∧ ((wAt W x).p.any fun z => z == y) = false ∧ better (nextW W x y o) (wAt W y) = true
  · have e1 : relaxW W x y o = W.set y.toNat (nextW W x y o) := if_pos hc
    obtain ⟨hf, hh, hb⟩ := hc
    have hny : y ∉ (wAt W x).p := by
      simp only [List.any_eq_false, beq_iff_eq] at hh
      exact fun hm => hh y hm rfl
    have hw := hI.sound x hx.1 hx.2 hf
    have hnx : nextW W x y o = ⟨(wAt W x).p ++ [y], (wAt W x).c + o, true⟩ := rfl
    have hP : Pt E s (nextW W x y o).p (nextW W x y o).c y := .step hw he hny
    have hat : ∀ z, 0 ≤ z → z < n → wAt (relaxW W x y o) z = if z = y then nextW W x y o else wAt W z := fun z h0 h1 => by
      rw [e1]; exact wAt_set hI.len hy _ h0 h1
    have hle : LeW n W (relaxW W x y o) := fun z h0 h1 hfz => by
      rw [hat z h0 h1]
      by_cases ez : z = y
      · subst ez
        rw [if_pos rfl]
        exact ⟨rfl, ltK_le ((better_iff hfz).1 hb)⟩
      · rw [if_neg ez]; exact ⟨hfz, leK_refl _⟩
    refine ⟨⟨by rw [e1, List.length_set]; exact hI.len, fun z h0 h1 hfz => ?_, fun z h0 h1 hfz u hu => ?_⟩, hle, fun _ q c hq hle' hyq => ?_⟩
    · rw [hat z h0 h1] at hfz ⊢
      by_cases ez : z = y
      · subst ez; rw [if_pos rfl]; exact hP
      · rw [if_neg ez] at hfz ⊢; exact hI.sound z h0 h1 hfz
    · rw [hat z h0 h1] at hfz hu ⊢
      by_cases ez : z = y
      · subst ez
        rw [if_pos rfl] at hu ⊢
        rw [hnx] at hu ⊢
        rcases List.mem_append.1 hu with hu | hu
        · obtain ⟨q, t, c', g1, g2, g3, g4, g5⟩ := hI.pre x hx.1 hx.2 hf u hu
          have hur := (Pt.rng hE hs hw).1 u hu
          obtain ⟨k1, k2⟩ := hle u hur.1 hur.2 g4
          exact ⟨q, t ++ [z], c', by simp only; rw [g1, List.append_assoc], g2, by simp only; omega, k1, leK_trans k2 g5⟩
        · simp at hu; subst hu
          refine ⟨(wAt W x).p ++ [u], [], (wAt W x).c + o, by simp, hP, Int.le_refl _, ?_, ?_⟩
          · rw [hat u h0 h1, if_pos rfl]; rfl
          · rw [hat u h0 h1, if_pos rfl, hnx]; exact leK_refl _
      · rw [if_neg ez] at hfz hu ⊢
        obtain ⟨q, t, c', g1, g2, g3, g4, g5⟩ := hI.pre z h0 h1 hfz u hu
        have hur := (Pt.rng hE hs (hI.sound z h0 h1 hfz)).1 u hu
        obtain ⟨k1, k2⟩ := hle u hur.1 hur.2 g4
        exact ⟨q, t, c', g1, g2, g3, k1, leK_trans k2 g5⟩
    · rw [hat y hy.1 hy.2, if_pos rfl, hnx]
      exact ⟨rfl, leK_app hle'⟩
  · have e1 : relaxW W x y o = W := if_neg hc
    rw [e1]
    refine ⟨hI, LeW.refl n W, fun hf q c hq hle' hyq => ?_⟩
    have hw := hI.sound x hx.1 hx.2 hf
    by_cases hm : y ∈ (wAt W x).p
    · obtain ⟨q', t, c', g1, g2, g3, g4, g5⟩ := hI.pre x hx.1 hx.2 hf y hm
      refine ⟨g4, leK_trans g5 ?_⟩
      intro hlt
      refine hle' ?_
      have hlen : q'.length ≤ (wAt W x).p.length := by rw [g1, List.length_append]; omega
      unfold ltK at hlt ⊢
      simp only [List.length_append, List.length_singleton] at hlt
      dsimp only at hlt ⊢
      by_cases a1 : c < (wAt W x).c
      · exact .inl a1
      · by_cases a2 : (wAt W x).c < c
        · omega
        · refine .inr ⟨by omega, .inl ?_⟩
          rcases hlt with hlt | ⟨e, hlt | ⟨el, hlt⟩⟩ <;> omega
    · have hh : ((wAt W x).p.any fun z => z == y) = false := by
        simp only [List.any_eq_false, beq_iff_eq]
        exact fun z hz e => hm (e ▸ hz)
      have hb : ¬ better (nextW W x y o) (wAt W y) = true := fun hb => hc ⟨hf, hh, hb⟩
      have hfy : (wAt W y).f = true := by
        cases hfy : (wAt W y).f with
        | true => rfl
        | false => exact absurd (by unfold better; rw [hfy]; simp) hb
      refine ⟨hfy, ?_⟩
      have h1 : leK (wAt W y) (nextW W x y o) := fun h => hb ((better_iff hfy).2 h)
      exact leK_trans h1 (leK_app hle')
theorem turn_spec {ls : List Ln} {may : List Bool} {counts : Bool} (hEd : E = Lk ls may counts) {W : List Wy} (hI : IW E s n W) : ∀ i, i ≤ ls.length → IW E s n (turnW ls may counts W i) ∧ LeW n W (turnW ls may counts W i) ∧
    ∀ j, j < i → ∀ x y o, (∃ h : j < ls.length, may.getD j false = true ∧ ((ls[j].a = x ∧ ls[j].b = y) ∨ (ls[j].a = y ∧ ls[j].b = x)) ∧ o = costW counts ls[j]) → (wAt W x).f = true → ∀ q c, Pt E s q c x → leK (wAt W x) ⟨q, c, true⟩ → y ∉ q →
      (wAt (turnW ls may counts W i) y).f = true ∧ leK (wAt (turnW ls may counts W i) y) ⟨q ++ [y], c + o, true⟩
  | 0, _ => ⟨hI, LeW.refl n W, fun j hj => absurd hj (by omega)⟩
  | i + 1, hi => by
    obtain ⟨g1, g2, g3⟩ := turn_spec hEd hI i (by omega)
    have hil : i < ls.length := by omega
    have hD : ls.getD i lnz = ls[i] := by simp [List.getD, hil]
    generalize hV : turnW ls may counts W i = V at g1 g2 g3
    have hT : turnW ls may counts W (i + 1) = linkW counts V ls[i] (may.getD i false) := by simp only [turnW, hD, hV]
    cases hm : may.getD i false with
    | false =>
      have e1 : turnW ls may counts W (i + 1) = V := by rw [hT, hm]; rfl
      rw [e1]
      refine ⟨g1, g2, fun j hj x y o hl hf q c hq hle hy => ?_⟩
      by_cases hji : j < i
      · exact g3 j hji x y o hl hf q c hq hle hy
      · have : j = i := by omega
        subst this
        obtain ⟨_, hm', _⟩ := hl
        rw [hm] at hm'; cases hm'
    | true =>
      have e1 : turnW ls may counts W (i + 1) = relaxW (relaxW V ls[i].a ls[i].b (costW counts ls[i])) ls[i].b ls[i].a (costW counts ls[i]) := by rw [hT, hm]; rfl
      have k1 : E ls[i].a ls[i].b (costW counts ls[i]) := by rw [hEd]; exact ⟨i, hil, hm, .inl ⟨rfl, rfl⟩, rfl⟩
      have k2 : E ls[i].b ls[i].a (costW counts ls[i]) := by rw [hEd]; exact ⟨i, hil, hm, .inr ⟨rfl, rfl⟩, rfl⟩
      obtain ⟨a1, a2, a3⟩ := relax_spec hE hs g1 k1
      obtain ⟨b1, b2, b3⟩ := relax_spec hE hs a1 k2
      rw [e1]
      generalize relaxW V ls[i].a ls[i].b (costW counts ls[i]) = V1 at a1 a2 a3 b1 b2 b3 ⊢
      generalize relaxW V1 ls[i].b ls[i].a (costW counts ls[i]) = V2 at b1 b2 b3 ⊢
      refine ⟨b1, (g2.trans a2).trans b2, fun j hj x y o hl hf q c hq hle hy => ?_⟩
      have lift : ∀ {A B : List Wy}, LeW n A B → 0 ≤ y → y < n → (wAt A y).f = true ∧ leK (wAt A y) ⟨q ++ [y], c + o, true⟩ → (wAt B y).f = true ∧ leK (wAt B y) ⟨q ++ [y], c + o, true⟩ := fun h h0 h1 ⟨p1, p2⟩ => by
        obtain ⟨r1, r2⟩ := h y h0 h1 p1
        exact ⟨r1, leK_trans r2 p2⟩
      have hxy : E x y o := by obtain ⟨hjl, hmj, hor, ho⟩ := hl; rw [hEd]; exact ⟨j, hjl, hmj, hor, ho⟩
      obtain ⟨_, hx, hyr⟩ := hE _ _ _ hxy
      by_cases hji : j < i
      · exact lift b2 hyr.1 hyr.2 (lift a2 hyr.1 hyr.2 (g3 j hji x y o hl hf q c hq hle hy))
      · have : j = i := by omega
        subst this
        obtain ⟨_, _, hor, ho⟩ := hl
        subst ho
        rcases hor with ⟨ha, hb⟩ | ⟨ha, hb⟩
        · subst ha hb
          obtain ⟨f1, l1⟩ := g2 _ hx.1 hx.2 hf
          exact lift b2 hyr.1 hyr.2 (a3 f1 q c hq (leK_trans l1 hle) hy)
        · subst ha hb
          obtain ⟨f1, l1⟩ := (g2.trans a2) _ hx.1 hx.2 hf
          exact b3 f1 q c hq (leK_trans l1 hle) hy
omit hE in
theorem ways_start (hEd : True) : IW E s n (ways0 n s) ∧ (wAt (ways0 n s) s).f = true ∧ leK (wAt (ways0 n s) s) ⟨[s], 0, true⟩ := by
  have hl : (List.replicate n.toNat wyz).length = n.toNat := by simp
  have hat : ∀ z, 0 ≤ z → z < n → wAt (ways0 n s) z = if z = s then ⟨[s], 0, true⟩ else wyz := fun z h0 h1 => by
    unfold ways0
    rw [wAt_set hl hs _ h0 h1]
    split
    · rfl
    · unfold wAt
      simp only [List.getD, List.getElem?_replicate]
      split <;> rfl
  refine ⟨⟨by simp [ways0], fun x h0 h1 hf => ?_, fun x h0 h1 hf y hy => ?_⟩, ?_, ?_⟩
  · rw [hat x h0 h1] at hf ⊢
    split at hf
    · rename_i e; subst e; rw [if_pos rfl]; exact .one
    · cases hf
  · rw [hat x h0 h1] at hf hy ⊢
    split at hf
    · rename_i e; subst e
      rw [if_pos rfl] at hy ⊢
      simp at hy; subst hy
      exact ⟨[y], [], 0, rfl, .one, Int.le_refl _, by rw [hat y h0 h1, if_pos rfl], by rw [hat y h0 h1, if_pos rfl]; exact leK_refl _⟩
    · cases hf
  · rw [hat s hs.1 hs.2, if_pos rfl]
  · rw [hat s hs.1 hs.2, if_pos rfl]; exact leK_refl _
theorem ways_spec {ls : List Ln} {may : List Bool} {counts : Bool} (hEd : E = Lk ls may counts) : ∀ t, IW E s n (waysN n ls may counts s t) ∧
    ∀ p c y, Pt E s p c y → p.length ≤ t + 1 → (wAt (waysN n ls may counts s t) y).f = true ∧ leK (wAt (waysN n ls may counts s t) y) ⟨p, c, true⟩
  | 0 => by
    obtain ⟨h1, h2, h3⟩ := ways_start (E := E) hs trivial
    refine ⟨h1, fun p c y hp hl => ?_⟩
    cases hp with
    | one => exact ⟨h2, h3⟩
    | step h he hy =>
      have := h.ne
      rename_i p' _ _ _
      cases p' with
      | nil => exact absurd rfl this
      | cons a b => simp at hl
  | t + 1 => by
    obtain ⟨h1, h2⟩ := ways_spec hEd t
    obtain ⟨g1, g2, g3⟩ := turn_spec hE hs hEd h1 ls.length (Nat.le_refl _)
    refine ⟨g1, fun p c y hp hl => ?_⟩
    cases hp with
    | one =>
      obtain ⟨f1, l1⟩ := h2 [s] 0 s .one (by simp)
      obtain ⟨f2, l2⟩ := g2 s hs.1 hs.2 f1
      exact ⟨f2, leK_trans l2 l1⟩
    | @step p c x _ o h he hy =>
      simp only [List.length_append, List.length_singleton] at hl
      obtain ⟨f1, l1⟩ := h2 p c x h (by omega)
      have he' := he
      rw [hEd] at he'
      obtain ⟨i, hi, hm, hor, ho⟩ := he'
      exact g3 i hi x y o ⟨hi, hm, hor, ho⟩ f1 p c h l1 hy
theorem route_spec {ls : List Ln} {may : List Bool} {counts : Bool} (hEd : E = Lk ls may counts) {to : Int} (ht : 0 ≤ to ∧ to < n) :
    ((routeW n ls may counts s to).f = true → Pt E s (routeW n ls may counts s to).p (routeW n ls may counts s to).c to) ∧
    ∀ p c, Pt E s p c to → (routeW n ls may counts s to).f = true ∧ leK (routeW n ls may counts s to) ⟨p, c, true⟩ := by
  obtain ⟨h1, h2⟩ := ways_spec hE hs hEd n.toNat
  refine ⟨fun hf => h1.sound to ht.1 ht.2 hf, fun p c hp => h2 p c to hp ?_⟩
  have := pigeon n.toNat p hp.nd fun x hx => by have := (Pt.rng hE hs hp).1 x hx; omega
  omega
end
end Go.Proofs.Ytglfcaioapdiaaa.Bk

-- How far each node is: the program's rounds, in plain terms.
namespace Go.Proofs.Ytglfcaioapdiaaa.Bk
open Go
set_option linter.unusedSimpArgs false
set_option linter.unusedVariables false
abbrev Far := List (Int × Int × Int)
def fget : Far → Int → Option (Int × Int)
  | [], _ => none
  | (x, v) :: F, k => if k == x then some v else fget F k
def fset : Far → Int → Int × Int → Far
  | [], k, v => [(k, v)]
  | (x, u) :: F, k, v => if k == x then (k, v) :: F else (x, u) :: fset F k v
theorem fget_fset (F : Far) (k : Int) (v : Int × Int) (j : Int) : fget (fset F k v) j = if j = k then some v else fget F j := by
  induction F with
  | nil => simp [fset, fget]
  | cons p F ih =>
    obtain ⟨x, u⟩ := p
    simp only [fset]
    by_cases h : k = x
    · subst h
      simp only [beq_self_eq_true, if_true, fget]
      by_cases hj : j = k
      · simp [hj]
      · simp [hj]
    · have hb : (k == x) = false := by simpa using h
      simp only [hb, Bool.false_eq_true, if_false, fget, ih]
      by_cases hj : j = x
      · subst hj
        have : ¬ j = k := fun e => h e.symm
        simp [this]
      · simp [hj]
def fc (F : Far) (k : Int) : Int := ((fget F k).getD (0, 0)).1
def fl (F : Far) (k : Int) : Int := ((fget F k).getD (0, 0)).2
def fh (F : Far) (k : Int) : Bool := (fget F k).isSome
theorem fget_of {F : Far} {k : Int} (h : fh F k = true) : fget F k = some (fc F k, fl F k) := by
  unfold fh fc fl at *
  cases hg : fget F k with
  | none => rw [hg] at h; cases h
  | some v => rfl
def lessF (a b : Int × Int) : Bool := decide (a.1 < b.1) || (a.1 == b.1 && decide (a.2 < b.2))
def leF (a b : Int × Int) : Prop := a.1 < b.1 ∨ (a.1 = b.1 ∧ a.2 ≤ b.2)
theorem leF_refl (a : Int × Int) : leF a a := .inr ⟨rfl, Int.le_refl _⟩
theorem leF_trans {a b c : Int × Int} (h : leF a b) (g : leF b c) : leF a c := by unfold leF at *; omega
theorem leF_of_less {a b : Int × Int} (h : lessF a b = true) : leF a b := by unfold lessF leF at *; simp at h; omega
theorem leF_of_not {a b : Int × Int} (h : lessF a b = false) : leF b a := by unfold lessF leF at *; simp at h; omega
def fimp (F : Far) (x y o : Int) : Bool := fh F x && (!fh F y || lessF (fc F x + o, fl F x + 1) (fc F y, fl F y))
def fstep (s : Far × Bool) (x y o : Int) : Far × Bool := if fimp s.1 x y o then (fset s.1 y (fc s.1 x + o, fl s.1 x + 1), true) else s
def ftwo (s : Far × Bool) (l : Ln) : Nat → Far × Bool
  | 0 => s
  | 1 => fstep s l.a l.b l.o
  | _ => fstep (fstep s l.a l.b l.o) l.b l.a l.o
def fpass (ls : List Ln) (s : Far × Bool) : Nat → Far × Bool
  | 0 => s
  | i + 1 => ftwo (fpass ls s i) (ls.getD i lnz) 2
def EL (ls : List Ln) (x y o : Int) : Prop := ∃ l ∈ ls, ((l.a = x ∧ l.b = y) ∨ (l.a = y ∧ l.b = x)) ∧ o = l.o
theorem EL.symm {ls : List Ln} {x y o : Int} (h : EL ls x y o) : EL ls y x o := by
  obtain ⟨l, hl, h, e⟩ := h
  exact ⟨l, hl, h.symm, e⟩
theorem EL.ok {n : Int} {ls : List Ln} (hL : LnsOk n ls) {x y o : Int} (h : EL ls x y o) : 0 ≤ o ∧ (0 ≤ x ∧ x < n) ∧ (0 ≤ y ∧ y < n) := by
  obtain ⟨l, hl, h, e⟩ := h
  obtain ⟨h1, h2, h3⟩ := hL l hl
  rcases h with ⟨h, h'⟩ | ⟨h, h'⟩ <;> subst h h' e
  · exact ⟨h3.1, h1, h2⟩
  · exact ⟨h3.1, h2, h1⟩
theorem EL.le {n : Int} {ls : List Ln} (hL : LnsOk n ls) {x y o : Int} (h : EL ls x y o) : o ≤ 1000000 := by
  obtain ⟨l, hl, h, e⟩ := h
  subst e; exact (hL l hl).2.2.2
section
variable {E : Int → Int → Int → Prop} {s : Int}
theorem Pt.c1 {M : Int} (hE : ∀ x y o, E x y o → o ≤ M) {p : List Int} {c x : Int} (h : Pt E s p c x) : c ≤ M * ((p.length : Int) - 1) := by
  induction h with
  | one => simp
  | step h he hy ih =>
    have := hE _ _ _ he
    simp only [List.length_append, List.length_singleton]
    rw [Int.natCast_add, show ∀ L : Int, L + ((1 : Nat) : Int) - 1 = (L - 1) + 1 from fun L => by omega, Int.mul_add, Int.mul_one]
    omega
structure FG (E : Int → Int → Int → Prop) (s n : Int) (F : Far) : Prop where
  pth : ∀ x c l, fget F x = some (c, l) → ∃ p, Pt E s p c x ∧ (p.length : Int) = l + 1 ∧ ∀ y ∈ p, ∃ q t c', p = q ++ t ∧ Pt E s q c' y ∧ c' ≤ c ∧ ∃ v, fget F y = some v ∧ leF v (c', (q.length : Int) - 1)
  st : ∃ v, fget F s = some v ∧ leF v (0, 0)
variable {n : Int} (hE : ∀ x y o, E x y o → 0 ≤ o ∧ (0 ≤ x ∧ x < n) ∧ (0 ≤ y ∧ y < n)) (hs : 0 ≤ s ∧ s < n)
include hE hs
theorem FG.bd (hM : ∀ x y o, E x y o → o ≤ 1000000) (hn : n ≤ 12) {F : Far} (h : FG E s n F) {x c l : Int} (hg : fget F x = some (c, l)) : 0 ≤ c ∧ c ≤ 12000000 ∧ 0 ≤ l ∧ l ≤ 11 ∧ 0 ≤ x ∧ x < n := by
  obtain ⟨p, hp, hl, _⟩ := h.pth x c l hg
  have h0 := hp.c0 (fun x y o h => (hE x y o h).1)
  have h1 := hp.c1 hM
  have h2 := Pt.rng hE hs hp
  have h3 := pigeon n.toNat p hp.nd fun y hy => by have := h2.1 y hy; omega
  have h4 : p.length ≠ 0 := fun e => hp.ne (List.length_eq_zero_iff.1 e)
  refine ⟨h0, ?_, by omega, by omega, h2.2⟩
  omega
theorem FG.bc (hM : ∀ x y o, E x y o → o ≤ 1000000) (hn : n ≤ 12) {F : Far} (h : FG E s n F) (x : Int) : 0 ≤ fc F x ∧ fc F x ≤ 12000000 ∧ 0 ≤ fl F x ∧ fl F x ≤ 11 := by
  cases hg : fget F x with
  | none => simp [fc, fl, hg]
  | some v =>
    have := FG.bd hE hs hM hn h (c := v.1) (l := v.2) (by rw [hg])
    simp only [fc, fl, hg, Option.getD_some]
    omega
omit hs in
theorem FG.step {F : Far} (h : FG E s n F) {x y o : Int} (he : E x y o) (hi : fimp F x y o = true) : FG E s n (fset F y (fc F x + o, fl F x + 1)) ∧ (∀ z v, fget F z = some v → ∃ v', fget (fset F y (fc F x + o, fl F x + 1)) z = some v' ∧ leF v' v) := by
  simp only [fimp, Bool.and_eq_true, Bool.or_eq_true, Bool.not_eq_true'] at hi
  obtain ⟨hx, hi⟩ := hi
  have hgx := fget_of hx
  obtain ⟨p, hp, hl, hpre⟩ := h.pth x _ _ hgx
  have o0 := (hE _ _ _ he).1
  have hold : ∀ v, fget F y = some v → lessF (fc F x + o, fl F x + 1) v = true := fun v hv => by
    rcases hi with hi | hi
    · unfold fh at hi; rw [hv] at hi; cases hi
    · have : v = (fc F y, fl F y) := by simp [fc, fl, hv]
      rw [this]; exact hi
  have hy : y ∉ p := fun hm => by
    obtain ⟨q, t, c', e, hq, hc, v, hv, hle⟩ := hpre y hm
    have h1 := hold v hv
    have h2 : q.length ≤ p.length := by rw [e]; simp
    unfold lessF leF at *
    simp only [Bool.or_eq_true, Bool.and_eq_true, decide_eq_true_eq, beq_iff_eq] at h1 hle
    omega
  have mono : ∀ z v, fget F z = some v → ∃ v', fget (fset F y (fc F x + o, fl F x + 1)) z = some v' ∧ leF v' v := fun z v hv => by
    rw [fget_fset]
    by_cases hz : z = y
    · subst hz; rw [if_pos rfl]; exact ⟨_, rfl, leF_of_less (hold v hv)⟩
    · rw [if_neg hz]; exact ⟨v, hv, leF_refl v⟩
  refine ⟨⟨fun z c l hz => ?_, ?_⟩, mono⟩
  · rw [fget_fset] at hz
    by_cases hzy : z = y
    · subst hzy
      rw [if_pos rfl] at hz
      simp only [Option.some.injEq, Prod.mk.injEq] at hz
      obtain ⟨rfl, rfl⟩ := hz
      refine ⟨p ++ [z], .step hp he hy, by simp; omega, fun u hu => ?_⟩
      rcases List.mem_append.1 hu with hu | hu
      · obtain ⟨q, t, c', e, hq, hc, v, hv, hle⟩ := hpre u hu
        obtain ⟨v', hv', hle'⟩ := mono u v hv
        exact ⟨q, t ++ [z], c', by rw [e, List.append_assoc], hq, by omega, v', hv', leF_trans hle' hle⟩
      · simp at hu; subst hu
        exact ⟨p ++ [u], [], fc F x + o, by simp, .step hp he hy, Int.le_refl _, (fc F x + o, fl F x + 1), by rw [fget_fset, if_pos rfl], .inr ⟨rfl, by simp only [List.length_append, List.length_singleton]; omega⟩⟩
    · rw [if_neg hzy] at hz
      obtain ⟨p', hp', hl', hpre'⟩ := h.pth z c l hz
      refine ⟨p', hp', hl', fun u hu => ?_⟩
      obtain ⟨q, t, c', e, hq, hc, v, hv, hle⟩ := hpre' u hu
      obtain ⟨v', hv', hle'⟩ := mono u v hv
      exact ⟨q, t, c', e, hq, hc, v', hv', leF_trans hle' hle⟩
  · obtain ⟨v, hv, hle⟩ := h.st
    obtain ⟨v', hv', hle'⟩ := mono s v hv
    exact ⟨v', hv', leF_trans hle' hle⟩
omit hE hs in
theorem FG.start : FG E s n [(s, 0, 0)] := by
  refine ⟨fun x c l h => ?_, ⟨(0, 0), by simp [fget], leF_refl _⟩⟩
  simp only [fget] at h
  split at h
  · rename_i e
    simp only [beq_iff_eq] at e
    subst e
    simp only [Option.some.injEq, Prod.mk.injEq] at h
    obtain ⟨rfl, rfl⟩ := h
    refine ⟨[x], .one, by simp, fun y hy => ?_⟩
    simp at hy; subst hy
    exact ⟨[y], [], 0, rfl, .one, Int.le_refl _, (0, 0), by simp [fget], .inr ⟨rfl, by simp⟩⟩
  · cases h
def mu1 : Option (Int × Int) → Nat
  | none => 2 ^ 40
  | some (c, l) => (c * 64 + l).toNat
def mu (n : Int) (F : Far) : Nat := ((List.range n.toNat).map fun (i : Nat) => mu1 (fget F (i : Int))).sum
omit hE hs in
theorem sum_le {f g : Nat → Nat} : ∀ l : List Nat, (∀ i ∈ l, f i ≤ g i) → (l.map f).sum ≤ (l.map g).sum
  | [], _ => Nat.le_refl _
  | i :: l, h => by
    have h1 := h i List.mem_cons_self
    have h2 := sum_le l fun j hj => h j (List.mem_cons_of_mem _ hj)
    simp only [List.map_cons, List.sum_cons]
    omega
omit hE hs in
theorem sum_lt {f g : Nat → Nat} : ∀ l : List Nat, (∀ i ∈ l, f i ≤ g i) → (∃ i ∈ l, f i < g i) → (l.map f).sum < (l.map g).sum
  | [], _, h => by obtain ⟨i, hi, _⟩ := h; cases hi
  | i :: l, h, hx => by
    have h1 := h i List.mem_cons_self
    have h2 := sum_le l fun j hj => h j (List.mem_cons_of_mem _ hj)
    simp only [List.map_cons, List.sum_cons]
    obtain ⟨j, hj, hlt⟩ := hx
    rcases List.mem_cons.1 hj with rfl | hj
    · omega
    · have := sum_lt l (fun j hj => h j (List.mem_cons_of_mem _ hj)) ⟨j, hj, hlt⟩
      omega
theorem FG.mu_lt (hM : ∀ x y o, E x y o → o ≤ 1000000) (hn : n ≤ 12) {F : Far} (h : FG E s n F) {x y o : Int} (he : E x y o) (hi : fimp F x y o = true) : mu n (fset F y (fc F x + o, fl F x + 1)) < mu n F := by
  obtain ⟨o0, hx, hy⟩ := hE _ _ _ he
  have bx := FG.bc hE hs hM hn h x
  have by_ := FG.bc hE hs hM hn h y
  have oM := hM _ _ _ he
  have key : mu1 (some (fc F x + o, fl F x + 1)) < mu1 (fget F y) := by
    simp only [fimp, Bool.and_eq_true, Bool.or_eq_true, Bool.not_eq_true'] at hi
    rcases hi.2 with hi | hi
    · have : fget F y = none := by unfold fh at hi; simpa using hi
      rw [this]; simp only [mu1]; omega
    · cases hf : fh F y with
      | false =>
        have : fget F y = none := by unfold fh at hf; simpa using hf
        rw [this]; simp only [mu1]; omega
      | true =>
        rw [fget_of hf]
        simp only [mu1]
        unfold lessF at hi
        simp only [Bool.or_eq_true, Bool.and_eq_true, decide_eq_true_eq, beq_iff_eq] at hi
        omega
  refine sum_lt _ (fun i hi' => ?_) ⟨y.toNat, List.mem_range.2 (by omega), ?_⟩
  · rw [fget_fset]
    split
    · rename_i e; rw [e]; omega
    · exact Nat.le_refl _
  · rw [fget_fset, if_pos (by omega), show ((y.toNat : Nat) : Int) = y by omega]
    exact key
end
end Go.Proofs.Ytglfcaioapdiaaa.Bk

-- How far each node is: where the rounds end; the way along it.
namespace Go.Proofs.Ytglfcaioapdiaaa.Bk
open Go
set_option linter.unusedSimpArgs false
set_option linter.unusedVariables false
section
variable {n s : Int} {ls : List Ln} (hL : LnsOk n ls) (hn : n ≤ 12) (hs : 0 ≤ s ∧ s < n)
structure FS (n s : Int) (ls : List Ln) (F : Far) (st : Far × Bool) : Prop where
  good : FG (EL ls) s n st.1
  up : st.2 = true → mu n st.1 < mu n F
  same : st.2 = false → st.1 = F
include hL hn hs
theorem FS.step {F : Far} {st : Far × Bool} (h : FS n s ls F st) {x y o : Int} (he : EL ls x y o) : FS n s ls F (fstep st x y o) := by
  unfold fstep
  split
  · rename_i hi
    have hE := fun x y o (h : EL ls x y o) => EL.ok hL h
    refine ⟨(FG.step hE h.good he hi).1, fun _ => ?_, fun h => by cases h⟩
    have h1 := FG.mu_lt hE hs (fun x y o h => EL.le hL h) hn h.good he hi
    cases hb : st.2 with
    | true => have := h.up hb; simp only at h1 ⊢; omega
    | false => have := h.same hb; simp only; rw [this] at h1 ⊢; exact h1
  · exact h
omit hL hn hs in
theorem EL.of {l : Ln} (h : l ∈ ls) : EL ls l.a l.b l.o := ⟨l, h, .inl ⟨rfl, rfl⟩, rfl⟩
theorem FS.two {F : Far} {st : Far × Bool} (h : FS n s ls F st) {l : Ln} (hl : l ∈ ls) : ∀ k, FS n s ls F (ftwo st l k)
  | 0 => h
  | 1 => FS.step hL hn hs h (EL.of hl)
  | _ + 2 => FS.step hL hn hs (FS.step hL hn hs h (EL.of hl)) (EL.of hl).symm
theorem FS.pass {F : Far} {st : Far × Bool} (h : FS n s ls F st) : ∀ i, i ≤ ls.length → FS n s ls F (fpass ls st i)
  | 0, _ => h
  | i + 1, hi => by
    have : ls.getD i lnz ∈ ls := by simp [List.getD, show i < ls.length by omega]
    exact FS.two hL hn hs (FS.pass h i (by omega)) this 2
omit hL hn hs in
theorem fstep_up {st : Far × Bool} {x y o : Int} (h : (fstep st x y o).2 = false) : st.2 = false ∧ fimp st.1 x y o = false ∧ fstep st x y o = st := by
  unfold fstep at h ⊢
  cases hi : fimp st.1 x y o with
  | true => rw [hi] at h; simp at h
  | false => rw [hi] at h; simpa using h
omit hL hn hs in
theorem fpass_fix {st : Far × Bool} : ∀ i, i ≤ ls.length → (fpass ls st i).2 = false → st.2 = false ∧ fpass ls st i = st ∧ ∀ j, j < i → fimp st.1 (ls.getD j lnz).a (ls.getD j lnz).b (ls.getD j lnz).o = false ∧ fimp st.1 (ls.getD j lnz).b (ls.getD j lnz).a (ls.getD j lnz).o = false
  | 0, _, h => ⟨h, rfl, fun j hj => absurd hj (Nat.not_lt_zero _)⟩
  | i + 1, hi, h => by
    simp only [fpass, ftwo] at h ⊢
    obtain ⟨a1, a2, a3⟩ := fstep_up h
    obtain ⟨b1, b2, b3⟩ := fstep_up a1
    obtain ⟨c1, c2, c3⟩ := fpass_fix i (by omega) b1
    rw [a3, b3, c2]
    rw [b3, c2] at a2
    rw [c2] at b2
    refine ⟨c1, rfl, fun j hj => ?_⟩
    by_cases e : j = i
    · subst e; exact ⟨b2, a2⟩
    · exact c3 j (by omega)
def farF (ls : List Ln) : Nat → Far → Far
  | 0, F => F
  | k + 1, F => if (fpass ls (F, false) ls.length).2 = true then farF ls k (fpass ls (F, false) ls.length).1 else (fpass ls (F, false) ls.length).1
def Fix (ls : List Ln) (F : Far) : Prop := ∀ x y o, EL ls x y o → fimp F x y o = false
omit hL hn hs in
theorem fix_of {F : Far} (h : (fpass ls (F, false) ls.length).2 = false) : Fix ls F := fun x y o he => by
  obtain ⟨l, hl, hor, ho⟩ := he
  obtain ⟨_, _, h3⟩ := fpass_fix ls.length (Nat.le_refl _) h
  obtain ⟨i, hi, e⟩ := List.getElem_of_mem hl
  have := h3 i hi
  have hD : ls.getD i lnz = l := by simp [List.getD, hi, e]
  rw [hD] at this
  subst ho
  rcases hor with ⟨h1, h2⟩ | ⟨h1, h2⟩ <;> subst h1 h2
  · exact this.1
  · exact this.2
theorem farF_spec : ∀ (k : Nat) (F : Far), FG (EL ls) s n F → mu n F < k → FG (EL ls) s n (farF ls k F) ∧ Fix ls (farF ls k F)
  | 0, F, _, h => absurd h (Nat.not_lt_zero _)
  | k + 1, F, hF, h => by
    have hp := FS.pass hL hn hs (F := F) (st := (F, false)) ⟨hF, fun h => (by cases h), fun _ => rfl⟩ ls.length (Nat.le_refl _)
    unfold farF
    split
    · rename_i hb
      have := hp.up hb
      exact farF_spec k _ hp.good (by omega)
    · rename_i hb
      have hb' : (fpass ls (F, false) ls.length).2 = false := by simpa using hb
      have e := hp.same hb'
      rw [e]
      exact ⟨hF, fix_of hb'⟩
def farR (n : Int) (ls : List Ln) (s : Int) : Far := farF ls (mu n [(s, 0, 0)] + 1) [(s, 0, 0)]
theorem farR_spec : FG (EL ls) s n (farR n ls s) ∧ Fix ls (farR n ls s) := farF_spec hL hn hs _ _ FG.start (Nat.lt_succ_self _)
omit hL hn hs in
theorem far_least {F : Far} (hF : FG (EL ls) s n F) (hx : Fix ls F) {p : List Int} {c x : Int} (h : Pt (EL ls) s p c x) : ∃ v, fget F x = some v ∧ leF v (c, (p.length : Int) - 1) := by
  induction h with
  | one =>
    obtain ⟨v, hv, hle⟩ := hF.st
    exact ⟨v, hv, by simpa using hle⟩
  | @step p c x y o h he hy ih =>
    obtain ⟨v, hv, hle⟩ := ih
    have hf := hx x y o he
    have hh : fh F x = true := by unfold fh; rw [hv]; rfl
    have hvx : v = (fc F x, fl F x) := by have := fget_of hh; rw [hv] at this; simpa using this
    simp only [fimp, hh, Bool.true_and, Bool.or_eq_false_iff, Bool.not_eq_false'] at hf
    obtain ⟨hy1, hl⟩ := hf
    refine ⟨_, fget_of hy1, leF_trans (leF_of_not hl) ?_⟩
    rw [hvx] at hle
    unfold leF at *
    simp only [List.length_append, List.length_singleton]
    omega
end
theorem Pt.cons {E : Int → Int → Int → Prop} {x y o : Int} {p : List Int} {c t : Int} (h : Pt E x p c t) (he : E y x o) (hy : y ∉ p) : Pt E y (y :: p) (o + c) t := by
  induction h with
  | one =>
    have : Pt E y ([y] ++ [x]) (0 + o) x := .step .one he (by simp at hy ⊢; exact fun e => hy e.symm)
    simpa using this
  | @step p c u v o' h he' hv ih =>
    have hyp : y ∉ p := fun hm => hy (List.mem_append_left _ hm)
    have hyv : v ≠ y := fun e => hy (by rw [e]; simp)
    have := Pt.step (ih hyp) he' (y := v) (by simp [hv, hyv])
    rw [← Int.add_assoc]
    exact this
theorem Pt.rev {E : Int → Int → Int → Prop} (hS : ∀ x y o, E x y o → E y x o) {s : Int} {p : List Int} {c t : Int} (h : Pt E s p c t) : Pt E t p.reverse c s := by
  induction h with
  | one => exact .one
  | @step p c x y o h he hy ih =>
    rw [List.reverse_append, List.reverse_singleton, List.singleton_append, Int.add_comm]
    exact Pt.cons ih (hS _ _ _ he) (by simpa using hy)
theorem Pt.head {E : Int → Int → Int → Prop} {s : Int} {p : List Int} {c t : Int} (h : Pt E s p c t) : (p = [s] ∧ c = 0 ∧ t = s) ∨ ∃ y o c' q, p = s :: q ∧ E s y o ∧ c = o + c' ∧ Pt E y q c' t ∧ s ∉ q := by
  induction h with
  | one => exact .inl ⟨rfl, rfl, rfl⟩
  | @step p c x y o h he hy ih =>
    rcases ih with ⟨rfl, rfl, rfl⟩ | ⟨y1, o1, c1, q, rfl, he1, rfl, hq, hsq⟩
    · exact .inr ⟨y, o, 0, [y], rfl, he, by omega, .one, by simp at hy ⊢; exact fun e => hy e.symm⟩
    · simp only [List.mem_cons, not_or] at hy
      refine .inr ⟨y1, o1, c1 + o, q ++ [y], by simp, he1, by omega, .step hq he hy.2, ?_⟩
      simp only [List.mem_append, List.mem_singleton, not_or]
      exact ⟨hsq, fun e => hy.1 e.symm⟩
end Go.Proofs.Ytglfcaioapdiaaa.Bk

-- The way along the distances, in plain terms: it is the best route.
namespace Go.Proofs.Ytglfcaioapdiaaa.Bk
open Go
set_option linter.unusedSimpArgs false
set_option linter.unusedVariables false
def gok (F : Far) (x : Int) (l : Ln) : Bool := othB x l && (fc F (othV x l) + l.o == fc F x && fl F (othV x l) + 1 == fl F x)
def gst (F : Far) (x : Int) (b : Int) (l : Ln) : Int := if gok F x l then min b (othV x l) else b
def gmin (F : Far) (n x : Int) (ls : List Ln) (i : Nat) : Int := (ls.take i).foldl (gst F x) n
theorem gmin_succ {F : Far} {n x : Int} {ls : List Ln} {i : Nat} (h : i < ls.length) : gmin F n x ls (i + 1) = gst F x (gmin F n x ls i) ls[i] := by
  rw [gmin, List.take_succ_eq_append_getElem h, List.foldl_append]; rfl
theorem gfold_le (F : Far) (x : Int) : ∀ (ls : List Ln) (b : Int), ls.foldl (gst F x) b ≤ b ∧ ∀ l ∈ ls, gok F x l = true → ls.foldl (gst F x) b ≤ othV x l
  | [], b => ⟨Int.le_refl _, by simp⟩
  | l :: ls, b => by
    obtain ⟨h1, h2⟩ := gfold_le F x ls (gst F x b l)
    have h3 : gst F x b l ≤ b := by unfold gst; split <;> omega
    refine ⟨by simp only [List.foldl_cons]; omega, fun z hz hk => ?_⟩
    simp only [List.foldl_cons]
    rcases List.mem_cons.1 hz with e | hz
    · subst e
      have : gst F x b z ≤ othV x z := by unfold gst; rw [hk]; simp only [if_true]; omega
      omega
    · exact h2 z hz hk
theorem gfold_in (F : Far) (x : Int) : ∀ (ls : List Ln) (b : Int), ls.foldl (gst F x) b = b ∨ ∃ l ∈ ls, gok F x l = true ∧ ls.foldl (gst F x) b = othV x l
  | [], b => .inl rfl
  | l :: ls, b => by
    simp only [List.foldl_cons]
    rcases gfold_in F x ls (gst F x b l) with h | ⟨z, hz, hk, e⟩
    · rw [h]
      unfold gst
      split
      · rename_i hk
        by_cases hb : b ≤ othV x l
        · exact .inl (by omega)
        · exact .inr ⟨l, List.mem_cons_self, hk, by omega⟩
      · exact .inl rfl
    · exact .inr ⟨z, List.mem_cons_of_mem _ hz, hk, e⟩
theorem EL.oth {ls : List Ln} {x : Int} {l : Ln} (hl : l ∈ ls) (h : othB x l = true) : EL ls x (othV x l) l.o := by
  simp only [othB, Bool.or_eq_true, beq_iff_eq] at h
  refine ⟨l, hl, ?_, rfl⟩
  unfold othV
  grind
theorem oth_of {ls : List Ln} {x y o : Int} (h : EL ls x y o) : ∃ l ∈ ls, othB x l = true ∧ othV x l = y ∧ l.o = o := by
  obtain ⟨l, hl, hor, e⟩ := h
  refine ⟨l, hl, ?_, ?_, e.symm⟩
  · unfold othB; grind
  · unfold othV; grind
section
variable {n to : Int} {ls : List Ln} {F : Far}
structure FW (n to : Int) (ls : List Ln) (F : Far) : Prop where
  ok : LnsOk n ls
  n12 : n ≤ 12
  rt : 0 ≤ to ∧ to < n
  good : FG (EL ls) to n F
  fix : Fix ls F
theorem FW.of (hL : LnsOk n ls) (hn : n ≤ 12) (ht : 0 ≤ to ∧ to < n) : FW n to ls (farR n ls to) := ⟨hL, hn, ht, (farR_spec hL hn ht).1, (farR_spec hL hn ht).2⟩
variable (h : FW n to ls F)
include h
theorem FW.bd {x : Int} (hx : fh F x = true) : 0 ≤ fc F x ∧ fc F x ≤ 12000000 ∧ 0 ≤ fl F x ∧ fl F x ≤ 11 ∧ 0 ≤ x ∧ x < n :=
  FG.bd (fun _ _ _ => EL.ok h.ok) h.rt (fun _ _ _ => EL.le h.ok) h.n12 h.good (fget_of hx)
theorem FW.bc (x : Int) : 0 ≤ fc F x ∧ fc F x ≤ 12000000 ∧ 0 ≤ fl F x ∧ fl F x ≤ 11 :=
  FG.bc (fun _ _ _ => EL.ok h.ok) h.rt (fun _ _ _ => EL.le h.ok) h.n12 h.good x
theorem FW.at0 : fh F to = true ∧ fc F to = 0 ∧ fl F to = 0 := by
  obtain ⟨v, hv, hle⟩ := h.good.st
  have hh : fh F to = true := by unfold fh; rw [hv]; rfl
  have hb := h.bd hh
  have e : v = (fc F to, fl F to) := by have := fget_of hh; rw [hv] at this; simpa using this
  rw [e] at hle
  unfold leF at hle
  simp only at hle
  exact ⟨hh, by omega, by omega⟩
theorem FW.zero {x : Int} (hx : fh F x = true) (h0 : fl F x = 0) : x = to := by
  obtain ⟨p, hp, hl, _⟩ := h.good.pth x _ _ (fget_of hx)
  rcases hp.head with ⟨_, _, e⟩ | ⟨y, o, c', q, e, _, _, hq, _⟩
  · exact e
  · have := hq.ne
    have h1 : q.length ≠ 0 := fun e => this (List.length_eq_zero_iff.1 e)
    rw [e] at hl
    simp only [List.length_cons] at hl
    omega
theorem FW.ne {x : Int} (hx : fh F x = true) (h0 : 0 < fl F x) : x ≠ to := fun e => by rw [e] at h0; have := h.at0.2.2; omega
theorem FW.cand {x : Int} (hx : fh F x = true) (h0 : 0 < fl F x) : ∃ l ∈ ls, gok F x l = true := by
  obtain ⟨p, hp, hl, _⟩ := h.good.pth x _ _ (fget_of hx)
  generalize hcx : fc F x = cx at hp
  cases hp with
  | one => simp at hl; omega
  | @step p c z _ o hp he hy =>
    obtain ⟨v, hv, hle⟩ := far_least h.good h.fix hp
    have hz : fh F z = true := by unfold fh; rw [hv]; rfl
    have ev : v = (fc F z, fl F z) := by have := fget_of hz; rw [hv] at this; simpa using this
    have hf := h.fix z x o he
    simp only [fimp, hz, hx, Bool.true_and, Bool.not_true, Bool.false_or] at hf
    have hle2 := leF_of_not hf
    obtain ⟨l, hl', g1, g2, g3⟩ := oth_of he.symm
    refine ⟨l, hl', ?_⟩
    simp only [List.length_append, List.length_singleton] at hl
    rw [ev] at hle
    unfold leF at hle hle2
    simp only at hle hle2
    simp only [gok, g1, g2, g3, Bool.true_and, Bool.and_eq_true, beq_iff_eq]
    omega
theorem FW.next {x : Int} (hx : fh F x = true) (h0 : 0 < fl F x) : ∃ l ∈ ls, gok F x l = true ∧ gmin F n x ls ls.length = othV x l ∧ (∀ l' ∈ ls, gok F x l' = true → gmin F n x ls ls.length ≤ othV x l') := by
  obtain ⟨l, hl, hk⟩ := h.cand hx h0
  obtain ⟨h1, h2⟩ := gfold_le F x ls n
  have e : gmin F n x ls ls.length = ls.foldl (gst F x) n := by rw [gmin, List.take_length]
  rw [e]
  rcases gfold_in F x ls n with h3 | ⟨l', hl', hk', e'⟩
  · have := h2 l hl hk
    have h4 := (EL.ok h.ok (EL.oth hl (by simp only [gok, Bool.and_eq_true] at hk; exact hk.1))).2.2.2
    omega
  · exact ⟨l', hl', hk', e', h2⟩
theorem FW.step {x : Int} (hx : fh F x = true) {l : Ln} (hl : l ∈ ls) (hk : gok F x l = true) : EL ls x (othV x l) l.o ∧ fh F (othV x l) = true ∧ fc F (othV x l) + l.o = fc F x ∧ fl F (othV x l) + 1 = fl F x := by
  simp only [gok, Bool.and_eq_true, beq_iff_eq] at hk
  have he := EL.oth hl hk.1
  refine ⟨he, ?_, hk.2.1, hk.2.2⟩
  have hf := h.fix _ _ _ he
  simp only [fimp, hx, Bool.true_and, Bool.or_eq_false_iff, Bool.not_eq_false'] at hf
  exact hf.1
end
def gat (F : Far) (n : Int) (ls : List Ln) (frm : Int) : Nat → Int
  | 0 => frm
  | k + 1 => gmin F n (gat F n ls frm k) ls ls.length
def rlist (F : Far) (n : Int) (ls : List Ln) (frm : Int) (k : Nat) : List Int := (List.range (k + 1)).map (gat F n ls frm)
theorem rlist_succ (F : Far) (n : Int) (ls : List Ln) (frm : Int) (k : Nat) : rlist F n ls frm (k + 1) = rlist F n ls frm k ++ [gat F n ls frm (k + 1)] := by
  simp [rlist, List.range_succ]
theorem rlist_len (F : Far) (n : Int) (ls : List Ln) (frm : Int) (k : Nat) : (rlist F n ls frm k).length = k + 1 := by simp [rlist]
theorem rlist_cons (F : Far) (n : Int) (ls : List Ln) (frm : Int) (k : Nat) : rlist F n ls frm (k + 1) = frm :: rlist F n ls (gat F n ls frm 1) k := by
  have : ∀ j, gat F n ls frm (j + 1) = gat F n ls (gat F n ls frm 1) j := fun j => by
    induction j with
    | zero => rfl
    | succ j ih => rw [gat, ih]; rfl
  unfold rlist
  rw [List.range_succ_eq_map, List.map_cons, List.map_map]
  congr 1
  refine List.map_congr_left fun j _ => ?_
  simp only [Function.comp, Nat.succ_eq_add_one]
  exact this j
section
variable {n to : Int} {ls : List Ln} {F : Far} (h : FW n to ls F)
include h
theorem FW.at {frm : Int} (hf : fh F frm = true) : ∀ k : Nat, (k : Int) ≤ fl F frm → fh F (gat F n ls frm k) = true ∧ fl F (gat F n ls frm k) = fl F frm - k
  | 0, _ => ⟨hf, by simp [gat]⟩
  | k + 1, hk => by
    obtain ⟨h1, h2⟩ := FW.at hf k (by omega)
    obtain ⟨l, hl, hg, e, _⟩ := h.next h1 (by omega)
    obtain ⟨_, s2, _, s4⟩ := h.step h1 hl hg
    rw [gat, e]
    exact ⟨s2, by omega⟩
theorem FW.way : ∀ (k : Nat) {frm : Int}, fh F frm = true → fl F frm = k → Pt (EL ls) frm (rlist F n ls frm k) (fc F frm) to ∧ ∀ y ∈ rlist F n ls frm k, fh F y = true ∧ fl F y ≤ k
  | 0, frm, hf, h0 => by
    have e := h.zero hf (by omega)
    subst e
    rw [h.at0.2.1]
    refine ⟨.one, fun y hy => ?_⟩
    simp [rlist, gat] at hy
    subst hy
    exact ⟨hf, by omega⟩
  | k + 1, frm, hf, h0 => by
    obtain ⟨l, hl, hg, e, _⟩ := h.next hf (by omega)
    obtain ⟨s1, s2, s3, s4⟩ := h.step hf hl hg
    have e1 : gat F n ls frm 1 = othV frm l := e
    obtain ⟨g1, g2⟩ := FW.way k s2 (by omega)
    rw [rlist_cons, e1]
    refine ⟨?_, fun y hy => ?_⟩
    · have := Pt.cons g1 s1 (fun hm => by have := (g2 frm hm).2; omega)
      rw [show fc F frm = l.o + fc F (othV frm l) by omega]
      exact this
    · rcases List.mem_cons.1 hy with rfl | hy
      · exact ⟨hf, by omega⟩
      · exact ⟨(g2 y hy).1, by have := (g2 y hy).2; omega⟩
theorem FW.first : ∀ (k : Nat) {frm : Int} {p : List Int} {c : Int}, fh F frm = true → fl F frm = k → Pt (EL ls) frm p c to → c = fc F frm → p.length = k + 1 → lessL p (rlist F n ls frm k) = false
  | 0, frm, p, c, hf, h0, hp, hc, hl => by
    rcases hp.head with ⟨e, _, _⟩ | ⟨y, o, c', q, e, _, _, hq, _⟩
    · subst e; simp [rlist, gat, lessL]
    · have h1 : q.length ≠ 0 := fun e => hq.ne (List.length_eq_zero_iff.1 e)
      rw [e] at hl; simp at hl; exact absurd hl (by simpa using h1)
  | k + 1, frm, p, c, hf, h0, hp, hc, hl => by
    rcases hp.head with ⟨e, _, _⟩ | ⟨y, o, c', q, e, he, ec, hq, _⟩
    · rw [e] at hl; simp at hl
    · subst e ec
      simp only [List.length_cons, Nat.add_right_cancel_iff] at hl
      obtain ⟨v, hv, hle⟩ := far_least h.good h.fix (hq.rev fun x y o h => h.symm)
      have hy : fh F y = true := by unfold fh; rw [hv]; rfl
      have ev : v = (fc F y, fl F y) := by have := fget_of hy; rw [hv] at this; simpa using this
      have hfx := h.fix y frm o he.symm
      simp only [fimp, hy, hf, Bool.true_and, Bool.not_true, Bool.false_or] at hfx
      have hle2 := leF_of_not hfx
      rw [ev] at hle
      unfold leF at hle hle2
      simp only [List.length_reverse] at hle hle2
      have c1 : fc F y = c' := by omega
      have c2 : fl F y = k := by omega
      obtain ⟨l, hl', g1, g2, g3⟩ := oth_of he
      have hg : gok F frm l = true := by
        simp only [gok, g1, g2, g3, Bool.true_and, Bool.and_eq_true, beq_iff_eq]; omega
      obtain ⟨l1, hl1, hk1, e1, hmin⟩ := h.next hf (by omega)
      have hm := hmin l hl' hg
      rw [g2] at hm
      have e2 : gat F n ls frm 1 = gmin F n frm ls ls.length := rfl
      rw [rlist_cons, lessL, if_pos rfl, e2]
      -- the first of the two tails
      have hd : ∀ z k, ∃ t, rlist F n ls z k = z :: t := fun z k => by
        cases k with
        | zero => exact ⟨[], rfl⟩
        | succ k => exact ⟨_, rlist_cons F n ls z k⟩
      by_cases hlt : gmin F n frm ls ls.length = y
      · rw [hlt]
        exact FW.first k hy (by omega) hq (by omega) hl
      · obtain ⟨t, ht⟩ := hd (gmin F n frm ls ls.length) k
        rw [ht]
        rcases hq.head with ⟨eq, _, _⟩ | ⟨_, _, _, q', eq, _, _, _, _⟩
        · subst eq
          rw [lessL, if_neg (fun e => hlt e.symm)]
          simp only [decide_eq_false_iff_not]; omega
        · subst eq
          rw [lessL, if_neg (fun e => hlt e.symm)]
          simp only [decide_eq_false_iff_not]; omega
end
end Go.Proofs.Ytglfcaioapdiaaa.Bk

namespace Go.Proofs.Ytglfcaioapdiaaa.Aw
open Go Go.RowKit
set_option linter.unusedVariables false
set_option linter.unusedSimpArgs false
mutual
def noOm : AV → Bool
  | .om _ _ => false
  | .agg cs => noOmL cs
  | .tup cs => noOmL cs
  | .fn _ cs => noOmL cs
  | _ => true
def noOmL : List AV → Bool
  | [] => true
  | x :: xs => noOm x && noOmL xs
end
theorem noOmL_get : ∀ {l : List AV} {j : Nat} {v : AV}, noOmL l = true → l[j]? = some v → noOm v = true
  | [], j, v, _, h => by simp at h
  | x :: l, 0, v, h, h2 => by simp [noOmL] at h; simp at h2; subst h2; exact h.1
  | x :: l, j + 1, v, h, h2 => by simp [noOmL] at h; simp at h2; exact noOmL_get h.2 h2
section
variable {K : Nat → Prop} {w w' : World} {m : Nat → Loc} {B : Nat} {es0 : Array MapEntry} {c0 : Nat}
theorem cell_thaw (hB : w.heap[B]? = some (.map es0 c0)) (hne : ∀ k, k ≠ B → w'.heap[k]? = w.heap[k]?) {b o : Nat} {s : Option (Nat × Nat)} {x : Value} (h : w.cell? ⟨b, o, none⟩ = some x) : w'.cell? ⟨b, o, none⟩ = some x := by
  by_cases e : b = B
  · subst e; simp [World.cell?, hB] at h
  · rw [World.cell?_of_block (w := w) (hne b e)]; exact h
theorem VR.thaw (hB : w.heap[B]? = some (.map es0 c0)) (hne : ∀ k, k ≠ B → w'.heap[k]? = w.heap[k]?) {S : Nat → Prop} {av : AV} {x : Value} (h : VR K w m S av x) : (noOm av = true ∨ ∀ i, ¬ S i) → VR K w' m S av x := by
  induction h with
  | v S x => intro _; exact .v _ _
  | dsl0 S size a c => intro _; exact .dsl0 _ _ _ _
  | dsl S size rows n b o c xs hn hc hk hl hx hv ih =>
    intro _
    exact .dsl _ _ _ n b o c xs hn hc hk hl (fun r row j cv h1 h2 => ⟨cell_thaw (s := none) hB hne (hx r row j cv h1 h2).1, (hx r row j cv h1 h2).2⟩) (fun r row j cv h1 h2 => ih r row j cv h1 h2 (.inr fun _ h => h))
  | dptr S cells b o xs hk hx hv ih =>
    intro _
    exact .dptr _ _ b o xs hk (fun j cv h1 => ⟨cell_thaw (s := none) hB hne (hx j cv h1).1, (hx j cv h1).2⟩) (fun j cv h1 => ih j cv h1 (.inr fun _ h => h))
  | om S id D es c b hs hp hq hb hk ho hD =>
    intro h
    rcases h with h | h
    · simp [noOm] at h
    · exact absurd hs (h id)
  | emp S a => intro _; exact .emp _ _
  | ptr S id row col o hs ho => intro _; exact .ptr _ _ _ _ _ hs ho
  | sl S id row len o c hs hp ho hc => intro _; exact .sl _ _ _ _ _ _ hs hp ho hc
  | sl0 S id row a hs => intro _; exact .sl0 _ _ _ _ hs
  | sx S id row len cap o c hs hp ho hcap hc => intro _; exact .sx _ _ _ _ _ _ _ hs hp ho hcap hc
  | agg S cs xs hl hv ih =>
    intro h
    exact .agg _ _ _ hl fun j cv y h1 h2 => ih j cv y h1 h2 (h.imp (fun h => by simp only [noOm] at h; exact noOmL_get h h1) id)
  | tup S cs xs hl hv ih =>
    intro h
    exact .tup _ _ _ hl fun j cv y h1 h2 => ih j cv y h1 h2 (h.imp (fun h => by simp only [noOm] at h; exact noOmL_get h h1) id)
  | fn S f cs xs hl hv ih =>
    intro h
    exact .fn _ _ _ _ hl fun j cv y h1 h2 => ih j cv y h1 h2 (h.imp (fun h => by simp only [noOm] at h; exact noOmL_get h h1) id)
end
def noOmB (b : Blk) : Bool := b.pl || b.rows.all noOmL
def noOmH (H : Hp) : Bool := H.all fun p => noOmB p.2
def omU (id : Nat) (D : List (Value × Value)) : AV → Option AV
  | .om i _ => if Nat.beq i id then some (.om id D) else none
  | .v x => some (.v x)
  | .dsl s r => some (.dsl s r)
  | .dptr c => some (.dptr c)
  | .ptr i r c => some (.ptr i r c)
  | .sl i r l => some (.sl i r l)
  | .sx i r l c => some (.sx i r l c)
  | .emp => some .emp
  | .agg cs => if noOmL cs then some (.agg cs) else none
  | .tup cs => if noOmL cs then some (.tup cs) else none
  | .fn f cs => if noOmL cs then some (.fn f cs) else none
theorem omU_spec {id : Nat} {D : List (Value × Value)} {v v' : AV} (h : omU id D v = some v') : (v' = v ∧ noOm v = true) ∨ ∃ D0, v = .om id D0 ∧ v' = .om id D := by
  cases v <;> simp only [omU] at h
  case om i D0 =>
    split at h
    · rename_i he
      simp only [Option.some.injEq] at h
      exact .inr ⟨D0, by rw [Nat.eq_of_beq_eq_true he], h.symm⟩
    · cases h
  case agg cs => split at h <;> simp_all [noOm]
  case tup cs => split at h <;> simp_all [noOm]
  case fn f cs => split at h <;> simp_all [noOm]
  all_goals (simp only [Option.some.injEq] at h; exact .inl ⟨h.symm, rfl⟩)
def omT (id : Nat) (D : List (Value × Value)) : Tp → Option Tp
  | [] => some []
  | (t, v) :: T => match omU id D v, omT id D T with
    | some v', some T' => some ((t, v') :: T')
    | _, _ => none
theorem omT_spec {id : Nat} {D : List (Value × Value)} : ∀ {T T' : Tp}, omT id D T = some T' → ∀ {t : Nat} {v' : AV}, look T' t = some v' → ∃ v, look T t = some v ∧ omU id D v = some v'
  | [], T', h, t, v', hl => by simp [omT] at h; subst h; simp [look_nil] at hl
  | (u, x) :: T, T', h, t, v', hl => by
    simp only [omT] at h
    split at h
    · rename_i x' T1 h1 h2
      simp only [Option.some.injEq] at h
      subst h
      rw [look_cons] at hl ⊢
      split at hl
      · rename_i e; subst e; simp only [Option.some.injEq] at hl; subst hl; exact ⟨x, by rw [if_pos rfl], h1⟩
      · rename_i e; rw [if_neg e]; exact omT_spec h2 hl
    · cases h
def mget (D : List (Value × Value)) (k : Int) : Option Value := match D with
  | [] => none
  | (x, v) :: D => match x with
    | .int .i64 j => if k == j then some v else mget D k
    | _ => none
def mset (D : List (Value × Value)) (k : Int) (v : Value) : List (Value × Value) := match D with
  | [] => [(.int .i64 k, v)]
  | (x, u) :: D => match x with
    | .int .i64 j => if k == j then (.int .i64 k, v) :: D else (x, u) :: mset D k v
    | _ => []
def keysI (D : List (Value × Value)) : Bool := D.all fun p => match p.1 with
  | .int .i64 _ => true
  | _ => false
def mentry (e : MapEntry) : Value × Value := (e.key, e.val)
theorem findNow_mget : ∀ (l : List MapEntry) (i : Nat) (k : Int), keysI (l.map mentry) = true →
    (mget (l.map mentry) k = none ∧ mset (l.map mentry) k = (fun v => l.map mentry ++ [(.int .i64 k, v)]) ∧ Instr.findNow (.int .i64) (.int .i64 k) l i = some none) ∨
    (∃ v j, mget (l.map mentry) k = some v ∧ Instr.findNow (.int .i64) (.int .i64 k) l i = some (some (i + j, v)) ∧ (∃ e, l[j]? = some e ∧ e.key = .int .i64 k) ∧ mset (l.map mentry) k = (fun u => (l.map mentry).set j (.int .i64 k, u)))
  | [], i, k, _ => .inl ⟨rfl, by funext v; rfl, rfl⟩
  | e :: l, i, k, h => by
    obtain ⟨ek, ev, eb⟩ := e
    simp only [keysI, List.map_cons, List.all_cons, Bool.and_eq_true, mentry] at h
    obtain ⟨h1, h2⟩ := h
    have hk : ∃ j, ek = .int .i64 j := by
      cases ek <;> first | (rename_i q j; cases q <;> first | exact ⟨_, rfl⟩ | (simp at h1; done)) | (simp at h1; done)
    obtain ⟨j, rfl⟩ := hk
    clear h1
    by_cases hkj : k = j
    · subst hkj
      refine .inr ⟨ev, 0, by simp [mget, mentry], by simp [Instr.findNow, Instr.sameNow], ⟨_, rfl, rfl⟩, ?_⟩
      funext u
      simp [mset, mentry]
    · have hb : (k == j) = false := by simpa using hkj
      have hs : Instr.sameNow (.int .i64) (.int .i64 k) (.int .i64 j) = some false := by simp [Instr.sameNow, hkj]
      rcases findNow_mget l (i + 1) k h2 with ⟨g1, g2, g3⟩ | ⟨v, q, g1, g2, g3, g4⟩
      · refine .inl ⟨by simp [mget, mentry, hb]; exact g1, ?_, by simp [Instr.findNow, hs, g3]⟩
        funext u
        have := congrFun g2 u
        simp only [mset, mentry, List.map_cons, hb] at this ⊢
        simp [this]
      · refine .inr ⟨v, q + 1, by simp [mget, mentry, hb]; exact g1, by simp [Instr.findNow, hs, g2]; omega, by simpa using g3, ?_⟩
        funext u
        have := congrFun g4 u
        simp only [mset, mentry, List.map_cons, hb] at this ⊢
        simp [this]
section
variable {P : Program} {Old : Nat → Prop} {wi : WI Old} {K : Nat → Prop} {m : Nat → Loc} {S : Nat → Prop} {H : Hp} {w : World} {N n : Nat} {T : Tp} {o : Oper} {a : Act}
theorem Rel.newMap (hr : Rel Old wi K m S H w) {n : Nat} (hn : ¬ S n) : Rel Old wi (fun k => K k ∨ k = w.heap.size) (updL m n ⟨w.heap.size, 1, 0, true⟩) (addS S n (n + 1)) ((n, ⟨0, 1000003, true, []⟩) :: H) (w.alloc (.map #[] 0)) := by
  have hm : ∀ i, S i → updL m n ⟨w.heap.size, 1, 0, true⟩ i = m i := fun i hi => updL_ne _ _ (fun e => hn (e ▸ hi))
  have hk : ∀ k, k < w.heap.size → (w.alloc (.map #[] 0)).heap[k]? = w.heap[k]? := fun k hk => Below.heap_alloc _ _ _ hk
  have hsize : (w.alloc (.map #[] 0)).heap.size = w.heap.size + 1 := by simp
  have part : ∀ i bi, look ((n, (⟨0, 1000003, true, []⟩ : Blk)) :: H) i = some bi → (i = n ∧ bi = ⟨0, 1000003, true, []⟩) ∨ (i ≠ n ∧ look H i = some bi) := fun i bi h => by
    rw [look_cons] at h
    split at h
    · rename_i he; simp only [Option.some.injEq] at h; exact .inl ⟨he.symm, h.symm⟩
    · rename_i he; exact .inr ⟨fun e => he e.symm, h⟩
  refine { os := hr.os, tape := hr.tape, output := hr.output, size := by rw [hsize]; have := hr.size; omega, old := fun k ho => by rw [hk k (hr.olt k ho)]; exact hr.old k ho, olt := fun k ho => by rw [hsize]; have := hr.olt k ho; omega, oown := ?_, om := ?_, kb := fun k hkk => by rw [hsize]; rcases hkk with h | h; (have := hr.kb k h; omega); omega, pin := fun i l hp => (hm i (hr.pinS i l hp)).trans (hr.pin i l hp), pinS := fun i l hp => .inl (hr.pinS i l hp), inS := ?_, own := ?_, inj := ?_ }
  · intro i bi h
    rcases part i bi h with ⟨rfl, rfl⟩ | ⟨hne, h2⟩
    · rw [updL_same]; intro h; cases h
    · rw [updL_ne _ _ hne]; exact hr.oown i bi h2
  · intro i bi h
    rcases part i bi h with ⟨rfl, rfl⟩ | ⟨hne, h2⟩
    · rw [updL_same]; exact fun _ _ => ⟨rfl, .inr rfl, fun ho => Nat.lt_irrefl _ (hr.olt _ ho)⟩
    · rw [updL_ne _ _ hne]; exact fun hp hq => ⟨(hr.om i bi h2 hp hq).1, .inl (hr.om i bi h2 hp hq).2.1, (hr.om i bi h2 hp hq).2.2⟩
  · intro i bi h
    rcases part i bi h with ⟨rfl, rfl⟩ | ⟨_, h2⟩
    · exact .inr ⟨Nat.le_refl _, Nat.lt_succ_self _⟩
    · exact .inl (hr.inS i bi h2)
  · intro i bi h
    rcases part i bi h with ⟨rfl, rfl⟩ | ⟨_, h2⟩
    · exact .inl ⟨by rw [updL_same], rfl⟩
    · exact (hr.own i bi h2).mono2 (fun _ h => .inl h) (fun hp hk => by
        rcases hk with hk | hk
        · exact hk
        · have := ((hr.own i bi h2).br hp).lt_size; omega) (fun k hkk => hk k (hr.kb k hkk)) (fun _ hb => hk _ hb.lt_size) (fun i hi => .inl hi) hm (hr.inS i bi h2)
  · intro i j bi bj h1 h2 hne
    rcases part i bi h1 with ⟨rfl, rfl⟩ | ⟨hi, hhi⟩ <;> rcases part j bj h2 with ⟨rfl, rfl⟩ | ⟨hj, hhj⟩
    · exact absurd rfl hne
    · rw [updL_same]; intro h; cases h
    · rw [updL_same]; intro _ h; cases h
    · rw [updL_ne _ _ hi, updL_ne _ _ hj]; exact hr.inj i j bi bj hhi hhj hne
theorem s_makeMap {t : TypeId} (ho : o.op = .makeMap t none) : Step P o N T H n (.om n []) ((n, ⟨0, 1000003, true, []⟩) :: H) (n + 1) true := by
  refine ⟨Nat.le_succ _, fun Old wi K m S a w hS hr ht next Q hn => ?_⟩
  have hrun : (execOp a.eval o).run P w = .ok (.value (.map (some w.heap.size))) (w.alloc (.map #[] 0)) := by
    simp only [execOp, ho]; rfl
  unfold Oper.wp
  rw [hrun]
  have hns : ¬ S n := hS n (Nat.le_refl _) (Nat.lt_succ_self _)
  refine hn _ _ (updL m n ⟨w.heap.size, 1, 0, true⟩) (fun k => K k ∨ k = w.heap.size) ⟨fun i hi => updL_ne _ _ (fun e => hi (by omega)), ⟨fun _ h => .inl h, fun k hk ho => ?_⟩, hr.newMap hns, ?_, fun k hk => Below.heap_alloc _ _ _ (hr.kb k hk), fun _ => ⟨(Below.refl _ w).alloc (Nat.le_refl _) _, fun i hi hi' hp => ?_, fun k hk hlt => ?_⟩⟩
  · rcases hk with h | h
    · exact h
    · have := hr.olt k ho; omega
  · exact .om _ n [] #[] 0 _ (.inr ⟨Nat.le_refl _, Nat.lt_succ_self _⟩) (by rw [updL_same]) (by rw [updL_same]) (by rw [updL_same]) (.inr rfl) (heap_alloc_new w _) rfl
  · have : i = n := by omega
    subst this
    rw [updL_same] at hp
    cases hp
  · rcases hk with h | h
    · exact h
    · omega
theorem s_lookup {t kt et : TypeId} {x y : Operand} {id : Nat} {D : List (Value × Value)} {k : Int} {z r : Value} {ok b : Bool} (ho : o.op = .lookup t x y ok) (hx : evalA T x = some (.om id D)) (hy : evalA T y = some (.v (.int .i64 k)))
    (ht : P.underlying t = some (.map kt et)) (hkt : P.underlying kt = some (.int .i64)) (hz : (P.info? et).bind (·.zero) = some z) (hD : keysI D = true) (hb : (mget D k).isSome = b) (hr : (mget D k).getD z = r) :
    Step P o N T H n (.v (if ok then .tuple #[r, .bool b] else r)) H n true := by
  refine Step.still fun Old wi K m S a w hrel htr => ?_
  have hxx := htr.eval hx
  have hyy := htr.eval hy
  generalize hxv : a.eval x = xv at hxx
  generalize hyv : a.eval y = yv at hyy
  cases hyy
  cases hxx with
  | om _ _ _ es c b0 hs hp hq hbb hk hoo hDD =>
    refine ⟨_, ?_, .v _ _⟩
    have hDm : es.toList.map mentry = D := hDD
    rw [← hDm] at hD hb hr
    have hzz : (zeroValue et).run P w = .ok z w := by
      cases hi : P.info? et with
      | none => rw [hi] at hz; cases hz
      | some i =>
        rw [hi] at hz
        simp only [Option.bind_some] at hz
        simp [zeroValue, typeInfo, hi, hz, Result.andThen]
    rcases findNow_mget es.toList 0 k hD with ⟨g1, _, g3⟩ | ⟨v, j, g1, g2, _, _⟩
    · rw [g1] at hb hr
      subst hb hr
      simp only [execOp, ho, hxv, hyv, Instr.lookup, Sem.run_bind, Sem.run_pure, run_underlying ht, Result.andThen, MapKept.run_getObj_map hoo, MapKept.run_checkKey (P := P) (w := w) hkt (k := .int .i64 k) (by trivial), MapKept.run_findKey (P := P) (w := w) hkt g3, hzz]
      cases ok <;> rfl
    · rw [g1] at hb hr
      subst hb hr
      simp only [execOp, ho, hxv, hyv, Instr.lookup, Sem.run_bind, Sem.run_pure, run_underlying ht, Result.andThen, MapKept.run_getObj_map hoo, MapKept.run_checkKey (P := P) (w := w) hkt (k := .int .i64 k) (by trivial), MapKept.run_findKey (P := P) (w := w) hkt g2]
      cases ok <;> rfl
def setO (w : World) (b : Nat) (ob : Obj) : World := { w with heap := w.heap.setIfInBounds b ob }
theorem setO_at {w : World} {b : Nat} {ob ob' : Obj} (h : w.heap[b]? = some ob') : (setO w b ob).heap[b]? = some ob ∧ (∀ k, k ≠ b → (setO w b ob).heap[k]? = w.heap[k]?) ∧ (setO w b ob).heap.size = w.heap.size :=
  ⟨(MapKept.heap_set h).1, (MapKept.heap_set h).2, by simp [setO]⟩
theorem run_mapUpdate {P : Program} {w : World} {t kt et : TypeId} {b c : Nat} {es : Array MapEntry} {k : Int} {v : Value} {D : List (Value × Value)} (ht : P.underlying t = some (.map kt et)) (hkt : P.underlying kt = some (.int .i64))
    (ho : w.heap[b]? = some (.map es c)) (hDD : es.toList.map mentry = D) (hD : keysI D = true) :
    ∃ es' c', (Instr.mapUpdate t (.map (some b)) (.int .i64 k) v).run P w = .ok () (setO w b (.map es' c')) ∧ es'.toList.map mentry = mset D k v := by
  subst hDD
  rcases findNow_mget es.toList 0 k hD with ⟨g1, g2, g3⟩ | ⟨u, j, g1, g2, ⟨e, ge, gk⟩, g4⟩
  · refine ⟨es.push { key := .int .i64 k, val := v, born := c }, c + 1, ?_, ?_⟩
    · simp only [Instr.mapUpdate, Sem.run_bind, Sem.run_pure, run_underlying ht, Result.andThen, MapKept.run_getObj_map ho, MapKept.run_checkKey (P := P) (w := w) hkt (k := .int .i64 k) (by trivial), MapKept.run_findKey (P := P) (w := w) hkt g3, MapKept.run_setObj_map _ ho]
      rfl
    · rw [congrFun g2 v]
      simp [mentry]
  · have hes : es[j]? = some e := by simpa using ge
    refine ⟨es.modify j fun e => { e with key := .int .i64 k, val := v }, c, ?_, ?_⟩
    · simp only [Instr.mapUpdate, Sem.run_bind, Sem.run_pure, run_underlying ht, Result.andThen, MapKept.run_getObj_map ho, MapKept.run_checkKey (P := P) (w := w) hkt (k := .int .i64 k) (by trivial), MapKept.run_findKey (P := P) (w := w) hkt g2, Nat.zero_add, hes, Option.map_some, Option.getD_some, gk]
      have hsb : Instr.sameBits 10000 (.int .i64 k) (.int .i64 k) = true := by simp [Instr.sameBits]
      simp [Instr.keyThatStays, hsb, Result.andThen, MapKept.run_setObj_map _ ho, setO]
    · rw [congrFun g4 v]
      apply List.ext_getElem?
      intro i
      simp only [List.getElem?_map, List.getElem?_set, List.length_map, Array.length_toList]
      have hj : j < es.size := (Array.getElem?_eq_some_iff.1 hes).1
      have hmod : (es.modify j fun e => { e with key := .int .i64 k, val := v })[i]? = if j = i then (es[i]?).map (fun e => { e with key := .int .i64 k, val := v }) else es[i]? := Array.getElem?_modify
      rw [Array.getElem?_toList, hmod]
      by_cases hij : j = i
      · subst hij
        rw [if_pos rfl, if_pos rfl, if_pos hj, hes]
        rfl
      · rw [if_neg hij, if_neg hij, Array.getElem?_toList]
theorem thaw_rel (hr : Rel Old wi K m S H w) (ht : TRel K w m S N T a) {id : Nat} {b : Blk} (hl : look H id = some b) (hH : noOmH H = true) {es es' : Array MapEntry} {c c' : Nat} (hp : (m id).ph = true) (hq : (m id).cap = 1) (ho : w.heap[(m id).blk]? = some (.map es c))
    {D' : List (Value × Value)} (hD : es'.toList.map mentry = D') {T' : Tp} (hT : omT id D' T = some T') :
    Rel Old wi K m S H (setO w (m id).blk (.map es' c')) ∧ TRel K (setO w (m id).blk (.map es' c')) m S N T' a := by
  obtain ⟨s1, s2, s3⟩ := setO_at (ob := .map es' c') ho
  obtain ⟨_, hK, hO⟩ := hr.om id b hl hp hq
  refine ⟨?_, ht.dn, ht.sz, fun t v' hl' => ?_⟩
  · refine { os := hr.os, tape := hr.tape, output := hr.output, size := by rw [s3]; exact hr.size, old := fun k hk => (s2 k (fun e => hO (e ▸ hk))).trans (hr.old k hk), olt := fun k hk => by rw [s3]; exact hr.olt k hk, oown := hr.oown, om := hr.om, kb := fun k hk => by rw [s3]; exact hr.kb k hk, inS := hr.inS, pin := hr.pin, pinS := hr.pinS, own := fun i bi hi => ?_, inj := hr.inj }
    rcases hr.own i bi hi with h | ⟨h1, hb⟩
    · exact .inl h
    · refine .inr ⟨h1, hb.nk, hb.sz, hb.cap, hb.capm, hb.plv, ?_⟩
      obtain ⟨cur, c1, c2, c3⟩ := hb.ex
      have hne : (m i).blk ≠ (m id).blk := fun e => by rw [e, ho] at c1; cases c1
      refine ⟨cur, (s2 _ hne).trans c1, c2, fun r row hrow => ⟨(c3 r row hrow).1, fun j cv hj => ?_⟩⟩
      obtain ⟨x, hx, hone, hv⟩ := (c3 r row hrow).2 j cv hj
      refine ⟨x, hx, hone, hv.thaw ho s2 ?_⟩
      have hnb := look_all hH hi
      simp only [noOmB, Bool.or_eq_true] at hnb
      rcases hnb with hpl | hrows
      · exact .inr fun i hh => by rw [hpl] at hh; cases hh.2
      · exact .inl (noOmL_get (List.all_eq_true.1 hrows row (List.mem_of_getElem? hrow)) hj)
  · obtain ⟨v, hv, hu⟩ := omT_spec hT hl'
    have hvr := ht.tm t v hv
    rcases omU_spec hu with ⟨rfl, hno⟩ | ⟨D0, rfl, rfl⟩
    · exact hvr.thaw ho s2 (.inl hno)
    · generalize a.tmps.getD t undef = x at hvr
      cases hvr with
      | om _ _ _ es1 c1 b1 hs hp1 hq1 hb1 hk1 ho1 hD1 =>
        subst hb1
        exact .om _ _ _ es' c' _ hs hp1 hq1 rfl hk1 s1 hD
end
section
variable {P : Program} {N n : Nat} {all : Array Oper} {l : List Oper} {G : Tp → Hp → Nat → Prop} {T T' : Tp} {H : Hp} {ty : TypeId} {pos : String} {after : Array Edge} {d : Nat}
theorem q_makeMap {t : TypeId} (hd : Nat.blt d N = true) (h : SQ P N all l G ((d, .om n []) :: T) ((n, ⟨0, 1000003, true, []⟩) :: H) (n + 1)) : SQ P N all (⟨some d, .makeMap t none, ty, pos, after, none⟩ :: l) G T H n :=
  sq_step rfl hd (s_makeMap rfl) h
inductive VV : AV → Value → Prop
  | v (x : Value) : VV (.v x) x
  | agg2 (x y : Value) : VV (.agg [.v x, .v y]) (.agg #[x, y])
theorem VV.eq {K : Nat → Prop} {w : World} {m : Nat → Loc} {S : Nat → Prop} {av : AV} {x y : Value} (h : VV av x) (hv : VR K w m S av y) : y = x := by
  cases h with
  | v => cases hv; rfl
  | agg2 a b =>
    cases hv with
    | agg _ _ xs hl hvv =>
      match xs, hl, hvv with
      | [p, q], _, hvv =>
        have h0 := hvv 0 _ p rfl rfl
        have h1 := hvv 1 _ q rfl rfl
        cases h0; cases h1; rfl
theorem sq_mapPut {o : Oper} {t kt et : TypeId} {x y z : Operand} {id : Nat} {b : Blk} {D D' : List (Value × Value)} {k : Int} {av : AV} {v : Value} (ho : o.op = .mapUpdate t x y z ∨ o.op = .insert t x y z) (hg : o.guard = none) (hd : o.dst = none)
    (hx : evalA T x = some (.om id D)) (hy : evalA T y = some (.v (.int .i64 k))) (hz : evalA T z = some av) (hv : VV av v) (hl : look H id = some b)
    (ht : P.underlying t = some (.map kt et)) (hkt : P.underlying kt = some (.int .i64)) (hD : keysI D = true) (hH : noOmH H = true) (he : mset D k v = D') (hT : omT id D' T = some T') (h : SQ P N all l G T' H n) : SQ P N all (o :: l) G T H n := by
  intro Old wi K m a w Q hr htr hq rr
  unfold wpListIn
  rw [if_pos (by simp [Region.wanted, hg])]
  refine ⟨fun _ _ => trivial, ?_⟩
  have hxx := htr.eval hx
  have hyy := htr.eval hy
  have hzz := hv.eq (htr.eval hz)
  generalize hxv : a.eval x = xv at hxx
  generalize hyv : a.eval y = yv at hyy
  cases hyy
  cases hxx with
  | om _ _ _ es c b0 hs hp hqq hbb hk hoo hDD =>
    subst hbb
    obtain ⟨es', c', hrun, hm⟩ := run_mapUpdate (v := v) (k := k) ht hkt hoo hDD hD
    have hrun2 : (execOp a.eval o).run P w = .ok .skip (setO w (m id).blk (.map es' c')) := by
      rcases ho with ho | ho <;> (simp only [execOp, ho, hxv, hyv, hzz, Sem.run_bind, hrun, Result.andThen]; rfl)
    obtain ⟨h1, h2⟩ := thaw_rel hr htr hl hH hp hqq hoo (c' := c') (hm.trans he) hT
    rw [Oper.semAt_eq _ _ _ (by intro c hc; rcases ho with ho | ho <;> (rw [ho] at hc; cases hc)), hrun2, Oper.uponIn_skip]
    have e : a.put o.dst undef = a := by rw [hd]; rfl
    rw [e]
    exact h Old wi K m a _ Q h1 h2 hq rr
theorem q_mapPut {t kt et : TypeId} {x y z : Operand} {id : Nat} {b : Blk} {D D' : List (Value × Value)} {k : Int} {av : AV} {v : Value}
    (hx : evalA T x = some (.om id D)) (hy : evalA T y = some (.v (.int .i64 k))) (hz : evalA T z = some av) (hv : VV av v) (hl : look H id = some b)
    (ht : P.underlying t = some (.map kt et)) (hkt : P.underlying kt = some (.int .i64)) (hD : keysI D = true) (hH : noOmH H = true) (he : mset D k v = D') (hT : omT id D' T = some T') (h : SQ P N all l G T' H n) : SQ P N all (⟨none, .mapUpdate t x y z, ty, pos, after, none⟩ :: l) G T H n :=
  sq_mapPut (.inl rfl) rfl rfl hx hy hz hv hl ht hkt hD hH he hT h
theorem q_mapIns {t kt et : TypeId} {x y z : Operand} {id : Nat} {b : Blk} {D D' : List (Value × Value)} {k : Int} {av : AV} {v : Value}
    (hx : evalA T x = some (.om id D)) (hy : evalA T y = some (.v (.int .i64 k))) (hz : evalA T z = some av) (hv : VV av v) (hl : look H id = some b)
    (ht : P.underlying t = some (.map kt et)) (hkt : P.underlying kt = some (.int .i64)) (hD : keysI D = true) (hH : noOmH H = true) (he : mset D k v = D') (hT : omT id D' T = some T') (h : SQ P N all l G T' H n) : SQ P N all (⟨none, .insert t x y z, ty, pos, after, none⟩ :: l) G T H n :=
  sq_mapPut (.inr rfl) rfl rfl hx hy hz hv hl ht hkt hD hH he hT h
end
theorem VV.val {K : Nat → Prop} {w : World} {m : Nat → Loc} {S : Nat → Prop} {av : AV} {x : Value} (h : VV av x) : VR K w m S av x := by
  cases h with
  | v => exact .v _ _
  | agg2 a b =>
    refine .agg _ _ [a, b] rfl fun j cv y h1 h2 => ?_
    match j with
    | 0 => simp at h1 h2; subst h1 h2; exact .v _ _
    | 1 => simp at h1 h2; subst h1 h2; exact .v _ _
    | j + 2 => simp at h1
theorem Step.vv {P : Program} {o : Oper} {N : Nat} {T : Tp} {H : Hp} {n : Nat} {x : Value} {av : AV} (h : Step P o N T H n (.v x) H n true) (hv : VV av x) : Step P o N T H n av H n true := by
  unfold Step at h ⊢
  refine ⟨h.1, fun Old wi K m S a w hS hr ht next Q hn => h.2 Old wi K m S a w hS hr ht next Q fun r w' m' K' ha => hn r w' m' K' ⟨ha.ag, ha.gk, ha.rel, ?_, ha.kk, ha.fr⟩⟩
  have := ha.vr
  cases this
  exact VV.val hv
theorem Step.vok {P : Program} {o : Oper} {N : Nat} {T : Tp} {H : Hp} {n : Nat} {x : Value} {b : Bool} {av : AV} (h : Step P o N T H n (.v (.tuple #[x, .bool b])) H n true) (hv : VV av x) : Step P o N T H n (.tup [av, .v (.bool b)]) H n true := by
  unfold Step at h ⊢
  refine ⟨h.1, fun Old wi K m S a w hS hr ht next Q hn => h.2 Old wi K m S a w hS hr ht next Q fun r w' m' K' ha => hn r w' m' K' ⟨ha.ag, ha.gk, ha.rel, ?_, ha.kk, ha.fr⟩⟩
  have := ha.vr
  cases this
  refine .tup _ _ [x, .bool b] rfl fun j cv y h1 h2 => ?_
  match j with
  | 0 => simp at h1 h2; subst h1 h2; exact VV.val hv
  | 1 => simp at h1 h2; subst h1 h2; exact .v _ _
  | j + 2 => simp at h1
section
variable {P : Program} {N n : Nat} {all : Array Oper} {l : List Oper} {G : Tp → Hp → Nat → Prop} {T : Tp} {H : Hp} {ty : TypeId} {pos : String} {after : Array Edge} {d : Nat} {o : Oper}
theorem s_buildArr {t : TypeId} {ti : TI} {parts : Array (Nat × Operand)} {ps : List (Nat × AV)} {cs : List AV} {len es : Nat} {ea : Bool} (ho : o.op = .build t parts) (hty : tiOf P t = some ti) (hk : ti.k = .array len es ea)
    (hp : parts.toList.mapM (fun p => (evalA T p.2).map fun v => (p.1, v)) = some ps) (hc : fillA (fun i => some (i * es, es)) (ti.zero.map .v) ps = some cs) : Step P o N T H n (.agg cs) H n true := by
  obtain ⟨i, d, z, hi, hd, hzz, hsz, hagg, hby, hzl, htk⟩ := tiOf_spec hty
  rw [hk] at htk
  obtain ⟨e, ei, d', rfl, hei, hed, hes, hea⟩ := tk_array htk
  refine Step.still fun Old wi K m S a w hr ht => ?_
  obtain ⟨e1, e2⟩ := evals_parts ht _ _ hp
  have hzv : VRl K w m S (ti.zero.map .v) z.cells.toList := by rw [hzl]; exact VRl.map_v _
  obtain ⟨xs, hx, hv⟩ := fill_vr _ ps (parts.toList.map fun p => (p.1, a.eval p.2)) _ cs z.cells hzv hc e1 e2
  refine ⟨.agg xs.toList.toArray, ?_, .agg _ _ _ hv.1 hv.2⟩
  have hparts : (parts.map fun (p : Nat × Operand) => (p.1, a.eval p.2)).toList = parts.toList.map fun p => (p.1, a.eval p.2) := by simp
  have hso : (sizeOf e).run P w = .ok es w := by rw [run_sizeOf w hei, Program.cellsOf, hei, ← hes]; rfl
  simp only [execOp, ho, Instr.build, Sem.run_bind, zeroValue, run_typeInfo w hi, Result.andThen, hzz, Sem.run_pure, run_underlying hd, hso]
  have hx' : Instr.fill (fun i => some (i * es, es)) z.cells (parts.map fun (p : Nat × Operand) => (p.1, a.eval p.2)).toList = some xs := by rw [hparts]; exact hx
  rw [hx']
  simp
theorem q_buildArr {t : TypeId} {parts : Array (Nat × Operand)} {ti : TI} {ps : List (Nat × AV)} {cs : List AV} {len es : Nat} {ea : Bool} (hd : Nat.blt d N = true) (hty : tiOf P t = some ti) (hk0 : ti.k = .array len es ea) (hm : evalP T parts.toList = some ps) (hc0 : fillA (fun i => some (i * es, es)) (ti.zero.map .v) ps = some cs)
    (h : SQ P N all l G ((d, .agg cs) :: T) H n) : SQ P N all (⟨some d, .build t parts, ty, pos, after, none⟩ :: l) G T H n :=
  sq_step rfl hd (s_buildArr rfl hty hk0 (evalP_m hm) hc0) h
end
section
variable {P : Program} {Old : Nat → Prop} {wi : WI Old} {K : Nat → Prop} {m : Nat → Loc} {S : Nat → Prop} {H : Hp} {w : World} {N n g : Nat} {T : Tp} {Q : Exit → Tp → Hp → Nat → Prop}
theorem Rel.reB {id ty sz : Nat} {pl : Bool} {rows rows' : List (List AV)} (hr : Rel Old wi K m S H w) (hl : look H id = some ⟨ty, sz, pl, rows⟩) (hlen : rows'.length = rows.length)
    (hw : ∀ (r : Nat) (row' : List AV), rows'[r]? = some row' → ∃ row, rows[r]? = some row ∧ row'.length = row.length ∧ ∀ (j : Nat) (cv' : AV), row'[j]? = some cv' → ∃ cv, row[j]? = some cv ∧ ∀ x, VR K w m S cv x → VR K w m S cv' x) : Rel Old wi K m S ((id, ⟨ty, sz, false, rows'⟩) :: H) w := by
  have old : ∀ i bi, look ((id, (⟨ty, sz, false, rows'⟩ : Blk)) :: H) i = some bi → ∃ b0, look H i = some b0 ∧ ((i = id ∧ bi = ⟨ty, sz, false, rows'⟩) ∨ bi = b0) := fun i bi h => by
    rw [look_cons] at h
    split at h
    · rename_i he; subst he; simp only [Option.some.injEq] at h; exact ⟨_, hl, .inl ⟨rfl, h.symm⟩⟩
    · exact ⟨bi, h, .inr rfl⟩
  refine { os := hr.os, tape := hr.tape, output := hr.output, size := hr.size, old := hr.old, olt := hr.olt, oown := fun i bi h => ?_, om := fun i bi h => ?_, kb := hr.kb, inS := fun i bi h => ?_, pin := hr.pin, pinS := hr.pinS, own := fun i bi h => ?_, inj := fun i j bi bj hi hj hne => ?_ }
  · obtain ⟨b0, h0, _⟩ := old i bi h; exact hr.oown i b0 h0
  · obtain ⟨b0, h0, hc⟩ := old i bi h
    rcases hc with ⟨rfl, rfl⟩ | rfl
    · exact fun hp hq => hr.om i ⟨ty, sz, pl, rows⟩ hl hp hq
    · exact hr.om i _ h0
  · obtain ⟨b0, h0, _⟩ := old i bi h; exact hr.inS i b0 h0
  · obtain ⟨b0, h0, hc⟩ := old i bi h
    rcases hc with ⟨rfl, rfl⟩ | rfl
    · rcases hr.own i _ hl with ⟨e1, e2⟩ | ⟨hp, hb⟩
      · refine .inl ⟨e1, ?_⟩
        simp only at e2
        rw [e2] at hlen
        exact List.length_eq_zero_iff.1 hlen
      · obtain ⟨cur, c1, c2, c3⟩ := hb.ex
        refine .inr ⟨hp, hb.nk, hb.sz, by have := hb.cap; simp only at this ⊢; rw [hlen]; exact this, hb.capm, (fun h => by cases h), cur, c1, c2, fun r row' hrow => ?_⟩
        obtain ⟨row, hr0, hlen, hcell⟩ := hw r row' hrow
        obtain ⟨g1, g2⟩ := c3 r row hr0
        refine ⟨hlen.trans g1, fun j cv' hj => ?_⟩
        obtain ⟨cv, hj0, hwk⟩ := hcell j cv' hj
        obtain ⟨x, hx, h1, hv⟩ := g2 j cv hj0
        refine ⟨x, hx, h1, (hwk x (hv.mono (fun _ h => h) (fun _ _ => rfl) (fun i hi => hi.1) (fun _ _ => rfl))).mono (fun _ h => h) (fun _ _ => rfl) (fun i hi => ⟨hi, rfl⟩) (fun _ _ => rfl)⟩
    · exact hr.own i _ h0
  · obtain ⟨b1, h1, _⟩ := old i bi hi
    obtain ⟨b2, h2, _⟩ := old j bj hj
    exact hr.inj i j b1 b2 h1 h2 hne
theorem aw_nilB {c : Code} (id r j ety esz : Nat) {ty sz : Nat} {pl : Bool} {rows rows' : List (List AV)} {row : List AV} (hl : look H id = some ⟨ty, sz, pl, rows⟩) (hne : Nat.beq n id = false) (hrow : rows[r]? = some row) (hj : row[j]? = some (.v (.slice none 0 0))) (he : rows.set r (row.set j (.sl n 0 0)) = rows')
    (h : AW P N g c Q T ((id, ⟨ty, sz, false, rows'⟩) :: (n, ⟨ety, esz, true, []⟩) :: H) (n + 1)) : AW P N g c Q T H n := fun Old wi K m a w hp hr ht => by
  have hn : ¬ (fun i => i < n) n := Nat.lt_irrefl n
  have hph := hr.phantom hn ety esz true
  have hm : ∀ i, i < n → updL m n ⟨0, 0, 0, true⟩ i = m i := fun i hi => updL_ne _ _ (fun e => hn (e ▸ hi))
  have eS : addS (fun i => i < n) n (n + 1) = fun i => i < n + 1 := addS_lt (Nat.le_succ n)
  rw [eS] at hph
  have hl2 : look ((n, (⟨ety, esz, true, []⟩ : Blk)) :: H) id = some ⟨ty, sz, pl, rows⟩ := by
    rw [look_cons, if_neg (fun e => by subst e; rw [Nat.beq_refl] at hne; cases hne)]; exact hl
  subst he
  refine h Old wi K _ a w hp (hph.reB hl2 (by simp) fun q row' hq => ?_) (ht.mono (fun _ h => h) (fun _ _ => rfl) (fun i (hi : i < n) => Nat.lt_succ_of_lt hi) hm)
  rw [List.getElem?_set] at hq
  split at hq
  · rename_i e
    subst e
    split at hq
    · simp only [Option.some.injEq] at hq
      subst hq
      refine ⟨row, hrow, by simp, fun k cv' hk => ?_⟩
      rw [List.getElem?_set] at hk
      split at hk
      · rename_i e
        subst e
        split at hk
        · simp only [Option.some.injEq] at hk
          subst hk
          refine ⟨_, hj, fun x hx => ?_⟩
          cases hx
          exact .sl0 _ _ _ _ (Nat.lt_succ_self n)
        · cases hk
      · exact ⟨cv', hk, fun x hx => hx⟩
    · cases hq
  · exact ⟨row', hq, rfl, fun k cv' hk => ⟨cv', hk, fun x hx => hx⟩⟩
end
theorem lk_om {T : Tp} {ρ : Nat → Nat} {n t id id' : Nat} {D D' : List (Value × Value)} (h : look T t = some (.om id' D')) (hi : id' = ρ id) (e : D' = D) (hn : Nat.blt id n = true) : look T t = some (renA ρ (.om id D)) ∧ idsOk n (.om id D) = true := by
  subst e hi; exact ⟨by rw [h]; simp only [renA], hn⟩
theorem lk_g {T : Tp} {ρ : Nat → Nat} {n t : Nat} {x y : List AV} (h : look T t = some (.agg y)) (e : y = x) (hr : renL ρ x = x) (hi : idsOkL n x = true) : look T t = some (renA ρ (.agg x)) ∧ idsOk n (.agg x) = true := by
  subst e; exact ⟨by rw [h]; simp only [renA, hr], hi⟩
end Go.Proofs.Ytglfcaioapdiaaa.Aw
