/-
  Calls that are handed blocks of the caller's own: what they may read, change, use up and make.
-/
import Derived.Test.YtglfcaioapdiaaaAwDraw5
namespace Go.Proofs.Ytglfcaioapdiaaa.Aw
open Go Go.RowKit
set_option linter.unusedVariables false

/-- what came in, said as trees, blocks of the caller's own among them -/
def VRa (K : Nat → Prop) (w : World) (m : Nat → Loc) (S : Nat → Prop) (args : List AV) (xs : List Value) : Prop :=
  xs.length = args.length ∧ ∀ (j : Nat) (av : AV) (x : Value), args[j]? = some av → xs[j]? = some x → VR K w m S av x

abbrev Ef := List (Nat × Option Blk)

structure PostC (Hi : Hp) (E : Ef) (K : Nat → Prop) (m : Nat → Loc) (S : Nat → Prop) (w : World) (n n' : Nat) (v : AV) (r : Value) (w' : World) (m' : Nat → Loc) (K' : Nat → Prop) : Prop where
  ag : ∀ i, ¬ (n ≤ i ∧ i < n') → m' i = m i
  os : w'.os = w.os
  tape : w'.tape = w.tape
  output : w'.output = w.output
  size : w.heap.size ≤ w'.heap.size
  keep : ∀ k, k < w.heap.size → (∀ i b, look Hi i = some b → (m i).ph = false → (m i).blk ≠ k) → w'.heap[k]? = w.heap[k]?
  gk : ∀ k, K k → K' k
  gk2 : ∀ k, K' k → K k ∨ w.heap.size ≤ k ∨ ∃ i b, look Hi i = some b ∧ (m i).ph = false ∧ (m i).blk = k
  kb : ∀ k, K' k → k < w'.heap.size
  vr : VR K' w' m' (addS S n n') v r
  loc : ∀ i b, look (ovr E Hi) i = some b → (m' i).ph = false → w.heap.size ≤ (m' i).blk ∨ ∃ j c, look Hi j = some c ∧ (m j).ph = false ∧ (m' i).blk = (m j).blk
  om : ∀ i b, look (ovr E Hi) i = some b → (m' i).ph = true → (m' i).cap = 1 → b.size = 1000003 ∧ K' (m' i).blk ∧ (w.heap.size ≤ (m' i).blk ∨ ∃ j c, look Hi j = some c ∧ (m j).ph = false ∧ (m' i).blk = (m j).blk)
  own : ∀ i b, look (ovr E Hi) i = some b → OB K' w' m' (addS S n n') i b
  inj : ∀ i j bi bj, look (ovr E Hi) i = some bi → look (ovr E Hi) j = some bj → i ≠ j → (m' i).ph = false → (m' j).ph = false → (m' i).blk ≠ (m' j).blk

section
variable {P : Program} {Old : Nat → Prop} {wi : WI} {K K' : Nat → Prop} {m m' : Nat → Loc} {S : Nat → Prop} {H Hi : Hp} {E : Ef} {w w' : World} {n n' : Nat} {v : AV} {r : Value}

/-- the caller's state behind such a call -/
theorem Rel.call (hr : Rel Old wi K m S H w) (hHi : ∀ i b, look Hi i = some b → look H i = some b) (hE : ∀ i ob, lkE E i = some ob → (look Hi i).isSome = true ∨ (n ≤ i ∧ i < n'))
    (hS : ∀ i, n ≤ i → i < n' → ¬ S i) (h : PostC Hi E K m S w n n' v r w' m' K') : Aft Old wi K m S w n v (ovr E H) n' false r w' m' K' := by
  have hSm : ∀ i, S i → m' i = m i := fun i hi => h.ag i (fun hc => hS i hc.1 hc.2 hi)
  have hkk : ∀ k, K k → w'.heap[k]? = w.heap[k]? := fun k hk => h.keep k (hr.kb k hk) (fun i b hl hp e => ((hr.own i b (hHi i b hl)).br hp).nk (e ▸ hk))
  have gk : GK Old K K' := ⟨h.gk, fun k hk ho => by
    rcases h.gk2 k hk with h1 | h1 | ⟨i, b, hl, hp, rfl⟩
    · exact h1
    · exact absurd (hr.olt k ho) (by omega)
    · exact absurd ho (hr.oown i b (hHi i b hl) hp)⟩
  have part : ∀ i b, look (ovr E H) i = some b → look (ovr E Hi) i = some b ∨ (lkE E i = none ∧ look Hi i = none ∧ look H i = some b) := fun i b hl => by
    rw [look_ovr] at hl ⊢
    cases he : lkE E i with
    | some ob => rw [he] at hl; exact .inl hl
    | none =>
      rw [he] at hl
      have hl : look H i = some b := hl
      cases hi : look Hi i with
      | none => exact .inr ⟨rfl, rfl, hl⟩
      | some c => left; rw [hHi i c hi] at hl; exact hl
  have inS : ∀ i b, look (ovr E Hi) i = some b → S i ∨ (n ≤ i ∧ i < n') := fun i b hl => by
    rw [look_ovr] at hl
    cases he : lkE E i with
    | some ob =>
      rcases hE i ob he with hs | hs
      · obtain ⟨c, hc⟩ := Option.isSome_iff_exists.1 hs; exact .inl (hr.inS i c (hHi i c hc))
      · exact .inr hs
    | none => rw [he] at hl; exact .inl (hr.inS i b (hHi i b hl))
  refine ⟨h.ag, gk, ?_, h.vr, hkk, fun h => by cases h⟩
  refine { os := h.os.trans hr.os, tape := h.tape.trans hr.tape, output := h.output.trans hr.output, size := Nat.le_trans hr.size h.size,
           old := fun k ho => (h.keep k (hr.olt k ho) (fun i b hl hp e => hr.oown i b (hHi i b hl) hp (e ▸ ho))).trans (hr.old k ho),
           olt := fun k ho => Nat.lt_of_lt_of_le (hr.olt k ho) h.size, oown := ?_, om := ?_, kb := h.kb, inS := ?_,
           pin := fun i l hp => (hSm i (hr.pinS i l hp)).trans (hr.pin i l hp), pinS := fun i l hp => .inl (hr.pinS i l hp), own := ?_, inj := ?_ }
  · intro i b hl
    rcases part i b hl with he | ⟨_, _, hh⟩
    · intro hp
      rcases h.loc i b he hp with hn | ⟨j, c, hj, hpj, e⟩
      · exact fun ho => by have := hr.olt _ ho; omega
      · rw [e]; exact hr.oown j c (hHi j c hj) hpj
    · rw [hSm i (hr.inS i b hh)]; exact hr.oown i b hh
  · intro i b hl
    rcases part i b hl with he | ⟨_, _, hh⟩
    · intro hp hq
      obtain ⟨g1, g2, g3⟩ := h.om i b he hp hq
      refine ⟨g1, g2, ?_⟩
      rcases g3 with hn | ⟨j, c, hj, hpj, e⟩
      · exact fun ho => by have := hr.olt _ ho; omega
      · rw [e]; exact hr.oown j c (hHi j c hj) hpj
    · rw [hSm i (hr.inS i b hh)]
      exact fun hp hq => ⟨(hr.om i b hh hp hq).1, h.gk _ (hr.om i b hh hp hq).2.1, (hr.om i b hh hp hq).2.2⟩
  · intro i b hl
    rcases part i b hl with he | ⟨_, _, hh⟩
    · exact inS i b he
    · exact .inl (hr.inS i b hh)
  · intro i b hl
    rcases part i b hl with he | ⟨he, hi, hh⟩
    · exact h.own i b he
    · have ne : (m i).ph = false → ∀ j c, look Hi j = some c → (m j).ph = false → (m j).blk ≠ (m i).blk := fun hp j c hj hpj =>
        hr.inj j i c b (hHi j c hj) hh (fun e => by subst e; rw [hi] at hj; cases hj) hpj hp
      refine (hr.own i b hh).mono2 h.gk ?_ hkk (fun hp hb => h.keep _ hb.lt_size (ne hp)) (fun i hi => .inl hi) hSm (hr.inS i b hh)
      intro hp hk
      rcases h.gk2 _ hk with h1 | h1 | ⟨j, c, hj, hpj, e⟩
      · exact h1
      · have := ((hr.own i b hh).br hp).lt_size; omega
      · exact absurd e (ne hp j c hj hpj)
  · intro i j bi bj hi hj hne
    have mix : ∀ {i j : Nat} {bi bj : Blk}, look (ovr E Hi) i = some bi → look Hi j = none → look H j = some bj → (m' i).ph = false → (m' j).ph = false → (m' i).blk ≠ (m' j).blk := by
      intro i j bi bj he hej hh hp
      rw [hSm j (hr.inS j bj hh)]
      intro hp'
      rcases h.loc i bi he hp with hn | ⟨k, c, hk, hpk, e⟩
      · have := ((hr.own j bj hh).br hp').lt_size; omega
      · rw [e]
        have hkj : k ≠ j := fun e => by subst e; rw [hej] at hk; cases hk
        exact hr.inj k j c bj (hHi k c hk) hh hkj hpk hp'
    rcases part i bi hi with hei | ⟨_, hii, hhi⟩ <;> rcases part j bj hj with hej | ⟨_, hij, hhj⟩
    · exact h.inj i j bi bj hei hej hne
    · exact mix hei hij hhj
    · exact fun hp hp' e => mix hej hii hhi hp' hp e.symm
    · rw [hSm i (hr.inS i bi hhi), hSm j (hr.inS j bj hhj)]
      exact hr.inj i j bi bj hhi hhj hne
end

/-- a function's contract that speaks of blocks it is given -/
def RC (P : Program) (f : FuncId) (args : List AV) (Hi : Hp) (n : Nat) (v : AV) (E : Ef) (n' : Nat) : Prop :=
  goFn P f = true ∧ n ≤ n' ∧ (∀ i ob, lkE E i = some ob → (look Hi i).isSome = true ∨ (n ≤ i ∧ i < n')) ∧
  ∀ (K : Nat → Prop) (m : Nat → Loc) (S : Nat → Prop) (w : World) (xs : List Value), (∀ k, K k → k < w.heap.size) → (∀ i, n ≤ i → i < n' → ¬ S i) → (∀ i b, look Hi i = some b → S i) →
    (∀ i b, look Hi i = some b → OB K w m S i b) → (∀ i j bi bj, look Hi i = some bi → look Hi j = some bj → i ≠ j → (m i).ph = false → (m j).ph = false → (m i).blk ≠ (m j).blk) → (∀ i b, look Hi i = some b → (m i).ph = true → (m i).cap = 1 → b.size = 1000003) → VRa K w m S args xs →
    Calls P f xs.toArray w fun e w' => ∃ r m' K', e = .returned r ∧ PostC Hi E K m S w n n' v r w' m' K'

def subE (H : Hp) : Hp → Prop
  | [] => True
  | (i, b) :: Hi => look H i = some b ∧ subE H Hi
theorem subE_get {H : Hp} : ∀ {Hi : Hp}, subE H Hi → ∀ i b, look Hi i = some b → look H i = some b
  | [], _, i, b, hl => by simp [look_nil] at hl
  | (j, c) :: Hi, h, i, b, hl => by
    rw [look_cons] at hl
    split at hl
    · rename_i he; subst he; simp only [Option.some.injEq] at hl; subst hl; exact h.1
    · exact subE_get h.2 i b hl

section
variable {P : Program} {H Hi : Hp} {E : Ef} {N n n' : Nat} {T : Tp} {o : Oper}
theorem s_callC {f : Operand} {g : FuncId} {xs : Array Operand} {ts : Array TypeId} {caps args : List AV} {v : AV} (ho : o.op = .call { callee := .value f, args := xs, argTypes := ts })
    (hf : evalA T f = some (.fn g caps)) (ha : xs.toList.mapM (evalA T) = some args) (hro : RC P g (args ++ caps) Hi n v E n') (hHi : subE H Hi) : Step P o N T H n v (ovr E H) n' false := by
  obtain ⟨hg, hn, hE, hc⟩ := hro
  refine ⟨hn, fun Old wi K m S a w hS hr ht next Q hnx => ?_⟩
  have hfv := ht.eval hf
  obtain ⟨el, ev⟩ := evals_of ht _ _ ha
  have hsub := subE_get hHi
  generalize hfx : a.eval f = fx at hfv
  cases hfv with
  | fn _ _ _ ys hl hv =>
    have hrun : (execOp a.eval o).run P w = .ok (.enter g (xs.toList.map a.eval ++ ys).toArray) w := by
      simp only [execOp, ho, resolve, hfx, Deferred.ofValue, invoke, Sem.run_bind, Sem.run_pure, Result.andThen]
      rw [run_goFn hg]
      obtain ⟨xs⟩ := xs
      simp
    unfold Oper.wp
    rw [hrun, Oper.upon_enter]
    refine (hc K m S w (xs.toList.map a.eval ++ ys) hr.kb hS (fun i b hl => hr.inS i b (hsub i b hl)) (fun i b hl => hr.own i b (hsub i b hl)) (fun i j bi bj hi hj hne => hr.inj i j bi bj (hsub i bi hi) (hsub j bj hj) hne) (fun i b hl hp hq => (hr.om i b (hsub i b hl) hp hq).1)
      ⟨by rw [List.length_append, List.length_append, el, hl], fun j av x h1 h2 => ?_⟩).mono ?_
    · by_cases hj : j < args.length
      · rw [List.getElem?_append_left hj] at h1
        rw [List.getElem?_append_left (by rw [el]; exact hj)] at h2
        exact ev j av x h1 h2
      · rw [List.getElem?_append_right (by omega)] at h1
        rw [List.getElem?_append_right (by rw [el]; omega), el] at h2
        exact hv _ av x h1 h2
    · rintro e w' ⟨r, m1, K1, rfl, hp⟩
      exact hnx r w' m1 K1 (hr.call hsub hE hS hp)
end

section
variable {K : Nat → Prop} {w : World} {m m2 : Nat → Loc} {S S2 : Nat → Prop}
/-- other names for the blocks, on both sides; what is read only stays so -/
theorem VR.ren3 {u : AV} {x : Value} (h : VR K w m S u x) (ρ σ : Nat → Nat) (k : Nat) (hm : ∀ i, i < k → m2 (σ i) = m (ρ i) ∧ S2 (σ i)) :
    ∀ v, renA ρ v = u → idsOk k v = true → VR K w m2 S2 (renA σ v) x := by
  have none : ∀ {v : AV} {x : Value}, VR K w m NoS v x → VR K w m2 NoS v x := fun h => h.mono (fun _ h => h) (fun _ _ => rfl) (fun _ h => h) (fun _ h => h.elim)
  induction h generalizing S2 with
  | v S x => intro v hv hi; cases v <;> simp only [renA] at hv <;> cases hv; exact .v _ _
  | dsl0 S size a c => intro v hv hi; cases v <;> simp only [renA] at hv <;> cases hv; exact .dsl0 _ _ _ _
  | dsl S size rows n b o c xs hn hc hk hl hx hv ih =>
    intro v hvv hi; cases v <;> simp only [renA] at hvv <;> cases hvv
    exact .dsl _ _ _ n b o c xs hn hc hk hl hx (fun r row j cv h1 h2 => none (hv r row j cv h1 h2))
  | dptr S cells b o xs hk hx hv ih =>
    intro v hvv hi; cases v <;> simp only [renA] at hvv <;> cases hvv
    exact .dptr _ _ b o xs hk hx (fun j cv h1 => none (hv j cv h1))
  | om S id D es c b hs hp hq hb hk ho hD =>
    intro v hvv hi; cases v <;> simp only [renA] at hvv <;> cases hvv
    have hlt := hm _ (by simpa [idsOk, Nat.blt_eq] using hi)
    simp only [renA]
    exact .om _ _ _ es c b hlt.2 (by rw [hlt.1]; exact hp) (by rw [hlt.1]; exact hq) (by rw [hlt.1]; exact hb) hk ho hD
  | emp S a => intro v hv hi; cases v <;> simp only [renA] at hv <;> cases hv; exact .emp _ _
  | ptr S id row col o hs ho =>
    intro v hvv hi; cases v <;> simp only [renA] at hvv <;> cases hvv
    have hlt := hm _ (by simpa [idsOk, Nat.blt_eq] using hi)
    simp only [renA]
    rw [← hlt.1]
    exact .ptr _ _ _ _ o hlt.2 (by rw [hlt.1]; exact ho)
  | sl0 S id row ad hs =>
    intro v hvv hi; cases v <;> simp only [renA] at hvv <;> cases hvv
    have hlt := hm _ (by simpa [idsOk, Nat.blt_eq] using hi)
    simp only [renA]
    exact .sl0 _ _ _ _ hlt.2
  | sx S id row len cap o c hs hp ho hcap hc =>
    intro v hvv hi; cases v <;> simp only [renA] at hvv <;> cases hvv
    have hlt := hm _ (by simpa [idsOk, Nat.blt_eq] using hi)
    simp only [renA]
    rw [← hlt.1]
    exact .sx _ _ _ _ _ o c hlt.2 (by rw [hlt.1]; exact hp) (by rw [hlt.1]; exact ho) (by rw [hlt.1]; exact hcap) hc
  | sl S id row len o c hs hp ho hc =>
    intro v hvv hi; cases v <;> simp only [renA] at hvv <;> cases hvv
    have hlt := hm _ (by simpa [idsOk, Nat.blt_eq] using hi)
    simp only [renA]
    rw [← hlt.1]
    exact .sl _ _ _ _ o c hlt.2 (by rw [hlt.1]; exact hp) (by rw [hlt.1]; exact ho) (by rw [hlt.1]; exact hc)
  | agg S cs xs hl hv ih =>
    intro v hvv hi; cases v <;> simp only [renA] at hvv <;> cases hvv
    rename_i cs
    simp only [idsOk] at hi
    simp only [renA]
    refine .agg _ _ _ (by rw [hl, renL_len, renL_len]) fun j cv y h1 h2 => ?_
    rw [renL_get] at h1
    cases hj : cs[j]? with
    | none => simp [hj] at h1
    | some c0 =>
      simp only [hj, Option.map_some, Option.some.injEq] at h1
      subst h1
      exact ih j (renA ρ c0) y (by rw [renL_get, hj]; rfl) h2 (hm := hm) c0 rfl (idsOkL_get hi hj)
  | tup S cs xs hl hv ih =>
    intro v hvv hi; cases v <;> simp only [renA] at hvv <;> cases hvv
    rename_i cs
    simp only [idsOk] at hi
    simp only [renA]
    refine .tup _ _ _ (by rw [hl, renL_len, renL_len]) fun j cv y h1 h2 => ?_
    rw [renL_get] at h1
    cases hj : cs[j]? with
    | none => simp [hj] at h1
    | some c0 =>
      simp only [hj, Option.map_some, Option.some.injEq] at h1
      subst h1
      exact ih j (renA ρ c0) y (by rw [renL_get, hj]; rfl) h2 (hm := hm) c0 rfl (idsOkL_get hi hj)
  | fn S f cs xs hl hv ih =>
    intro v hvv hi; cases v <;> simp only [renA] at hvv <;> cases hvv
    rename_i cs
    simp only [idsOk] at hi
    simp only [renA]
    refine .fn _ _ _ _ (by rw [hl, renL_len, renL_len]) fun j cv y h1 h2 => ?_
    rw [renL_get] at h1
    cases hj : cs[j]? with
    | none => simp [hj] at h1
    | some c0 =>
      simp only [hj, Option.map_some, Option.some.injEq] at h1
      subst h1
      exact ih j (renA ρ c0) y (by rw [renL_get, hj]; rfl) h2 (hm := hm) c0 rfl (idsOkL_get hi hj)

mutual
theorem renA_id : ∀ v : AV, renA (fun i => i) v = v
  | .ptr _ _ _ => by simp only [renA]
  | .sl _ _ _ => by simp only [renA]
  | .sx _ _ _ _ => by simp only [renA]
  | .v _ => by simp only [renA]
  | .dsl _ _ => by simp only [renA]
  | .dptr _ => by simp only [renA]
  | .om _ _ => by simp only [renA]
  | .emp => by simp only [renA]
  | .agg cs => by simp only [renA, renL_id cs]
  | .tup cs => by simp only [renA, renL_id cs]
  | .fn _ cs => by simp only [renA, renL_id cs]
theorem renL_id : ∀ l : List AV, renL (fun i => i) l = l
  | [] => by simp only [renL]
  | x :: l => by simp only [renL, renA_id x, renL_id l]
end
theorem renB_id (b : Blk) : renB (fun i => i) b = b := by
  obtain ⟨ty, sz, pl, rows⟩ := b
  cases pl with
  | true => rfl
  | false =>
    simp only [renB]
    congr 1
    exact (List.map_congr_left fun l _ => renL_id l).trans (by simp)
theorem renB_pl {ρ : Nat → Nat} {b : Blk} (h : b.pl = true) : renB ρ b = b := by cases b; simp only at h; subst h; rfl
theorem renB_np {ρ : Nat → Nat} {b : Blk} (h : b.pl = false) : renB ρ b = { b with rows := b.rows.map (renL ρ) } := by cases b; simp only at h; subst h; rfl

/-- a block under other names -/
theorem BR.ren3 {i : Nat} {b : Blk} (ρ σ : Nat → Nat) (k : Nat) (h : BR K w m S (ρ i) (renB ρ b)) (hi : i < k) (hb : idsOkB k b = true) (hm : ∀ i, i < k → m2 (σ i) = m (ρ i) ∧ S2 (σ i)) : BR K w m2 S2 (σ i) (renB σ b) := by
  obtain ⟨cur, c1, c2, c3⟩ := h.ex
  have e := (hm i hi).1
  cases hp : b.pl with
  | true =>
    rw [renB_pl hp] at h c1 c2 c3 ⊢
    refine ⟨by rw [e]; exact h.nk, by rw [e]; exact h.sz, by rw [e]; exact h.cap, by rw [e]; exact h.capm, h.plv, cur, by rw [e]; exact c1, by rw [e]; exact c2, fun r row hrow => ⟨(c3 r row hrow).1, fun j cv hj => ?_⟩⟩
    obtain ⟨y, hy, hone, hvy⟩ := (c3 r row hrow).2 j cv hj
    have := h.plv hp r row hrow j cv hj
    refine ⟨y, hy, hone, ?_⟩
    cases cv <;> simp only [isV] at this <;> try (cases this)
    cases hvy; exact .v _ _
  | false =>
    rw [renB_np hp] at h c1 c2 c3 ⊢
    have hcap := h.cap
    simp only [List.length_map] at hcap
    unfold idsOkB at hb
    simp only [hp] at hb
    refine ⟨by rw [e]; exact h.nk, by rw [e]; exact h.sz, by rw [e]; simpa using hcap, by rw [e]; exact h.capm, fun hc => absurd hc (by simp [hp]), cur, by rw [e]; exact c1, by rw [e]; exact c2, fun r row hrow => ?_⟩
    simp only [List.getElem?_map] at hrow
    cases hrow0 : b.rows[r]? with
    | none => simp [hrow0] at hrow
    | some row0 =>
      simp only [hrow0, Option.map_some, Option.some.injEq] at hrow
      subst hrow
      obtain ⟨k1, k2⟩ := c3 r (renL ρ row0) (by simp [hrow0])
      rw [renL_len] at k1
      refine ⟨by rw [renL_len]; exact k1, fun j cv hj => ?_⟩
      rw [renL_get] at hj
      cases hj0 : row0[j]? with
      | none => simp [hj0] at hj
      | some cv0 =>
        simp only [hj0, Option.map_some, Option.some.injEq] at hj
        subst hj
        obtain ⟨y, hy, hone, hvy⟩ := k2 j (renA ρ cv0) (by rw [renL_get, hj0]; rfl)
        exact ⟨y, hy, hone, hvy.ren3 ρ σ k (S2 := fun i => S2 i ∧ b.pl = false) (fun i hi => ⟨(hm i hi).1, (hm i hi).2, hp⟩) cv0 rfl (idsOkL_get (List.all_eq_true.1 hb _ (List.mem_of_getElem? hrow0)) hj0)⟩
end

theorem OB.ren3 {K : Nat → Prop} {w : World} {m m2 : Nat → Loc} {S S2 : Nat → Prop} {i : Nat} {b : Blk} (ρ σ : Nat → Nat) (k : Nat) (h : OB K w m S (ρ i) (renB ρ b)) (hi : i < k) (hb : idsOkB k b = true) (hm : ∀ i, i < k → m2 (σ i) = m (ρ i) ∧ S2 (σ i)) : OB K w m2 S2 (σ i) (renB σ b) := by
  have e := (hm i hi).1
  rcases h with ⟨p1, p2⟩ | ⟨p1, p2⟩
  · refine .inl ⟨by rw [e]; exact p1, ?_⟩
    cases hp : b.pl with
    | true => rw [renB_pl hp] at p2 ⊢; exact p2
    | false => rw [renB_np hp] at p2 ⊢; simpa using p2
  · exact .inr ⟨by rw [e]; exact p1, BR.ren3 ρ σ k p2 hi hb hm⟩

def renH (σ : Nat → Nat) (H : Hp) : Hp := H.map fun p => (σ p.1, renB σ p.2)
def renE (σ : Nat → Nat) (E : Ef) : Ef := E.map fun p => (σ p.1, p.2.map (renB σ))
theorem look_renH {σ : Nat → Nat} : ∀ {H : Hp} {i : Nat} {b : Blk}, look (renH σ H) i = some b → ∃ j b0, i = σ j ∧ look H j = some b0 ∧ b = renB σ b0
  | [], i, b, h => by simp [renH, look_nil] at h
  | (u, x) :: U, i, b, h => by
    have h : look ((σ u, renB σ x) :: renH σ U) i = some b := h
    rw [look_cons] at h
    split at h
    · rename_i he; simp only [Option.some.injEq] at h; exact ⟨u, x, he.symm, by rw [look_cons, if_pos rfl], h.symm⟩
    · rename_i he
      obtain ⟨j, b0, h1, h2, h3⟩ := look_renH h
      refine ⟨j, b0, h1, ?_, h3⟩
      rw [look_cons, if_neg (fun e => he (by rw [e, h1]))]
      exact h2
theorem renH_look {σ : Nat → Nat} {g : Nat} (hσ : ∀ i j, i < g → j < g → σ i = σ j → i = j) : ∀ {H : Hp} {i : Nat} {b : Blk}, (H.all fun p => Nat.blt p.1 g) = true → i < g → look H i = some b → look (renH σ H) (σ i) = some (renB σ b)
  | [], i, b, _, _, h => by simp [look_nil] at h
  | (u, x) :: U, i, b, ha, hi, h => by
    simp only [List.all_cons, Bool.and_eq_true, Nat.blt_eq] at ha
    show look ((σ u, renB σ x) :: renH σ U) (σ i) = _
    rw [look_cons] at h ⊢
    by_cases he : u = i
    · subst he
      rw [if_pos rfl] at h ⊢
      simp only [Option.some.injEq] at h
      rw [h]
    · rw [if_neg he] at h
      rw [if_neg (fun e => he (hσ _ _ ha.1 hi e))]
      exact renH_look hσ ha.2 hi h
theorem lkE_renE {σ : Nat → Nat} : ∀ {E : Ef} {i : Nat} {ob : Option Blk}, lkE (renE σ E) i = some ob → ∃ j ob0, i = σ j ∧ lkE E j = some ob0 ∧ ob = ob0.map (renB σ)
  | [], i, ob, h => by simp [renE, lkE] at h
  | (u, x) :: U, i, ob, h => by
    have h : lkE ((σ u, x.map (renB σ)) :: renE σ U) i = some ob := h
    rw [lkE_cons] at h
    split at h
    · rename_i he; simp only [Option.some.injEq] at h; exact ⟨u, x, he.symm, by rw [lkE_cons, if_pos rfl], h.symm⟩
    · rename_i he
      obtain ⟨j, b0, h1, h2, h3⟩ := lkE_renE h
      refine ⟨j, b0, h1, ?_, h3⟩
      rw [lkE_cons, if_neg (fun e => he (by rw [e, h1]))]
      exact h2
theorem lkE_key {E : Ef} {i : Nat} {ob : Option Blk} (h : lkE E i = some ob) : (i, ob) ∈ E := by
  induction E with
  | nil => simp [lkE] at h
  | cons p E ih =>
    obtain ⟨u, x⟩ := p
    rw [lkE_cons] at h
    split at h
    · rename_i he; subst he; simp only [Option.some.injEq] at h; subst h; exact List.mem_cons_self
    · exact List.mem_cons_of_mem _ (ih h)
theorem lkE_has {σ : Nat → Nat} : ∀ {E : Ef} {i : Nat}, i ∈ E.map (·.1) → lkE (renE σ E) (σ i) ≠ none
  | [], i, h => by simp at h
  | (u, x) :: U, i, h => by
    show lkE ((σ u, x.map (renB σ)) :: renE σ U) (σ i) ≠ none
    rw [lkE_cons]
    split
    · simp
    · rename_i he
      refine lkE_has ?_
      rcases List.mem_cons.1 h with e | e
      · exact absurd (congrArg σ e.symm) he
      · exact e

/-- the end of a call that was given blocks 0 .. g - 1: 'ρ' tells what the result's blocks are called there -/
structure FinC (P : Program) (rs : List ResultVar) (g : Nat) (v : AV) (E : Ef) (T : Tp) (H : Hp) (ρ : Nat → Nat) : Prop where
  res : ResV P T H rs (renA ρ v)
  pin : ∀ i, i < g → ρ i = i
  live : ∀ i b, (i, some b) ∈ E → look H (ρ i) = some (renB ρ b)
  inj : injB ρ (E.filterMap fun p => p.2.map fun _ => p.1) = true
def Finc (P : Program) (rs : List ResultVar) (g : Nat) (v : AV) (E : Ef) : Exit → Tp → Hp → Nat → Prop
  | .normal, T, H, _ => ∃ ρ, FinC P rs g v E T H ρ
  | .ret, T, H, _ => ∃ ρ, FinC P rs g v E T H ρ
  | _, _, _, _ => False

/-- the names that a call's blocks have at its caller's -/
def nmC (ids : List Nat) (n : Nat) (i : Nat) : Nat := match ids[i]? with
  | some k => k
  | none => n + (i - ids.length)

/-- the check of a contract's form -/
def okC (g k : Nat) (args : List AV) (Hi : Hp) (v : AV) (E : Ef) : Bool :=
  args.all (idsOk g) && Hi.all (fun p => Nat.blt p.1 g && idsOkB g p.2) && (List.range g).all (fun i => (look Hi i).isSome && (E.map (·.1)).contains i) &&
  E.all (fun p => Nat.blt p.1 (g + k) && (match p.2 with | some b => idsOkB (g + k) b | none => true)) && idsOk (g + k) v && Hi.all (fun p => !Nat.beq p.2.size 1000003)

theorem RC.of {P : Program} {f : FuncId} {fn : Func} {c : Code} {args : List AV} {v : AV} {Hi : Hp} {E : Ef} (ids : List Nat) (n k : Nat) (hf : P.funcs[f]? = some fn) (hb : fn.body = some c) (hg : goFn P f = true) (hN : args.length ≤ fn.ntmps)
    (hok : okC ids.length k args Hi v E = true) (hnd : ids.Nodup) (h : AW P fn.ntmps ids.length c (Finc P fn.results.toList ids.length v E) (idx 0 args) Hi ids.length) :
    RC P f (args.map (renA (nmC ids n))) (renH (nmC ids n) Hi) n (renA (nmC ids n) v) (renE (nmC ids n) E) (n + k) := by
  generalize hgl : ids.length = g at hok h
  simp only [okC, Bool.and_eq_true] at hok
  obtain ⟨⟨⟨⟨⟨ok1, ok2⟩, ok3⟩, ok4⟩, ok5⟩, ok2b⟩ := hok
  have hiK : (Hi.all fun p => Nat.blt p.1 g) = true := List.all_eq_true.2 fun p hp => (by have := List.all_eq_true.1 ok2 p hp; simp only [Bool.and_eq_true] at this; exact this.1)
  have hiK' : ∀ i b, look Hi i = some b → i < g ∧ idsOkB g b = true := fun i b hl => by
    have := look_all ok2 hl
    simp only [Bool.and_eq_true, Nat.blt_eq] at this
    exact this
  have σlt : ∀ i, i < g → ∃ k, ids[i]? = some k ∧ nmC ids n i = k := fun i hi => ⟨ids[i]'(by omega), List.getElem?_eq_getElem (by omega), by simp [nmC, List.getElem?_eq_getElem (show i < ids.length by omega)]⟩
  have σge : ∀ i, g ≤ i → nmC ids n i = n + (i - g) := fun i hi => by simp [nmC, List.getElem?_eq_none (show ids.length ≤ i by omega), hgl]
  have σinj : ∀ i j, i < g → j < g → nmC ids n i = nmC ids n j → i = j := fun i j hi hj he => by
    obtain ⟨a, ha, ea⟩ := σlt i hi
    obtain ⟨b, hb', eb⟩ := σlt j hj
    rw [ea, eb] at he
    subst he
    exact (List.getElem?_inj (by omega) hnd).1 (ha.trans hb'.symm)
  generalize hσ : nmC ids n = σ at σlt σge σinj ⊢
  have given : ∀ i, i < g → ∃ b, look Hi i = some b := fun i hi => by
    have := List.all_eq_true.1 ok3 i (List.mem_range.2 hi)
    simp only [Bool.and_eq_true] at this
    exact Option.isSome_iff_exists.1 this.1
  have cover : ∀ i, i < g → i ∈ E.map (·.1) := fun i hi => by
    have := List.all_eq_true.1 ok3 i (List.mem_range.2 hi)
    simp only [Bool.and_eq_true] at this
    simpa using this.2
  have hEk : ∀ i ob, lkE E i = some ob → i < g + k ∧ ∀ b, ob = some b → idsOkB (g + k) b = true := fun i ob hl => by
    have := List.all_eq_true.1 ok4 _ (lkE_key hl)
    simp only [Bool.and_eq_true, Nat.blt_eq] at this
    exact ⟨this.1, fun b e => by subst e; exact this.2⟩
  refine ⟨hg, by omega, fun i ob hl => ?_, fun K m S w xs hk hfr hS hB hI hM hv => ?_⟩
  · obtain ⟨j, ob0, rfl, hj, _⟩ := lkE_renE hl
    by_cases hjg : j < g
    · obtain ⟨b, hb⟩ := given j hjg
      left; rw [renH_look σinj hiK hjg hb]; rfl
    · right; rw [σge j (by omega)]; have := (hEk j ob0 hj).1; omega
  refine calls_of_wp hf hb ?_
  have hsz : xs.length = args.length := by have := hv.1; simpa using this
  have hSσ : ∀ i, i < g → S (σ i) := fun i hi => by obtain ⟨b, hb⟩ := given i hi; exact hS _ _ (renH_look σinj hiK hi hb)
  let Old : Nat → Prop := fun k => k < w.heap.size ∧ ∀ i b, look Hi i = some b → (m (σ i)).ph = false → (m (σ i)).blk ≠ k
  let wi : WI := ⟨w, fun i => if i < g then some (m (σ i)) else none⟩
  have hr0 : Rel Old wi K (fun i => m (σ i)) (fun i => i < g) Hi w :=
    { os := rfl, tape := rfl, output := rfl, size := Nat.le_refl _, old := fun _ _ => rfl, olt := fun _ h => h.1, oown := fun i b hl hp ho => ho.2 i b hl hp rfl, om := fun i b hl hp hq => absurd (hM _ _ (renH_look σinj hiK (hiK' i b hl).1 hl) hp hq) (fun e => by have := look_all ok2b hl; simp only [Bool.not_eq_true'] at this; have e2 : b.size = 1000003 := e; rw [e2] at this; exact absurd this (by decide)), kb := hk, inS := fun i b hl => (hiK' i b hl).1
      pin := fun i l hp => by simp only [wi] at hp; split at hp; · simpa using hp
                              · cases hp
      pinS := fun i l hp => by simp only [wi] at hp; split at hp; · assumption
                               · cases hp
      own := fun i b hl => by
        have hb := hB _ _ (renH_look σinj hiK (hiK' i b hl).1 hl)
        have := OB.ren3 (m2 := fun i => m (σ i)) (S2 := fun i => i < g) σ (fun i => i) g hb (hiK' i b hl).1 (hiK' i b hl).2 (fun j hj => ⟨rfl, hj⟩)
        have e : renB (fun i => i) b = b := renB_id b
        rw [e] at this
        exact this
      inj := fun i j bi bj hi hj hne => hI _ _ _ _ (renH_look σinj hiK (hiK' i bi hi).1 hi) (renH_look σinj hiK (hiK' j bj hj).1 hj) (fun e => hne (σinj i j (hiK' i bi hi).1 (hiK' j bj hj).1 e)) }
  have ht0 : TRel K w (fun i => m (σ i)) (fun i => i < g) fn.ntmps (idx 0 args) { tmps := xs.toArray ++ Array.replicate (fn.ntmps - xs.toArray.size) undef, defers := [] } := by
    refine ⟨rfl, by simp; omega, fun t av hl => ?_⟩
    obtain ⟨_, h2⟩ := look_idx args 0 t av hl
    rw [Nat.sub_zero] at h2
    have hlt : t < xs.length := by rw [hsz]; exact (List.getElem?_eq_some_iff.1 h2).1
    have hx := List.getElem?_eq_getElem hlt
    have hva := hv.2 t (renA σ av) _ (by rw [List.getElem?_map, h2]; rfl) hx
    have he : (xs.toArray ++ Array.replicate (fn.ntmps - xs.toArray.size) undef).getD t undef = xs[t] := by
      rw [Array.getD_eq_getD_getElem?, Array.getElem?_append_left (by simpa using hlt)]
      simp [hlt]
    show VR _ _ _ _ av ((xs.toArray ++ Array.replicate (fn.ntmps - xs.toArray.size) undef).getD t undef)
    rw [he]
    exact hva.ren σ g av rfl (List.all_eq_true.1 ok1 av (List.mem_of_getElem? h2))
  have fin : ∀ (a' : Act) (w' : World) (T' : Tp) (H' : Hp) (n' : Nat) (m' : Nat → Loc) (K' : Nat → Prop), GK Old K K' → (∃ ρ, FinC P fn.results.toList g v E T' H' ρ) → Rel Old wi K' m' (fun i => i < n') H' w' → TRel K' w' m' (fun i => i < n') fn.ntmps T' a' →
      a'.defers = [] ∧ ∃ x, (results fn a'.tmps).run P w' = .ok x w' ∧ ∃ r m' K', Ending.returned x = .returned r ∧ PostC (renH σ Hi) (renE σ E) K m S w n (n + k) (renA σ v) r w' m' K' := by
    rintro a' w' T' H' n' m' K' hgk ⟨ρ, hfin⟩ hr ht
    obtain ⟨x, hx, hvx⟩ := hfin.res.run hr ht
    obtain ⟨m2, hm2⟩ : ∃ m2 : Nat → Loc, ∀ i, m2 i = if n ≤ i ∧ i < n + k then m' (ρ (i - n + g)) else m i := ⟨_, fun _ => rfl⟩
    refine ⟨ht.dn, x, hx, x, m2, K', rfl, ?_⟩
    have hm : ∀ i, i < g + k → m2 (σ i) = m' (ρ i) ∧ addS S n (n + k) (σ i) := fun i hi => by
      by_cases hig : i < g
      · have hs := hSσ i hig
        have hno : ¬ (n ≤ σ i ∧ σ i < n + k) := fun hc => hfr _ hc.1 hc.2 hs
        refine ⟨?_, .inl hs⟩
        rw [hm2, if_neg hno]
        rw [hfin.pin i hig]
        exact (hr.pin i (m (σ i)) (by simp [wi, hig])).symm
      · have e := σge i (by omega)
        refine ⟨?_, .inr (by omega)⟩
        rw [hm2, e, if_pos ⟨by omega, by omega⟩, show n + (i - g) - n + g = i by omega]
    have live : ∀ i b, look (ovr (renE σ E) (renH σ Hi)) i = some b → ∃ j b0, i = σ j ∧ j < g + k ∧ lkE E j = some (some b0) ∧ b = renB σ b0 ∧ idsOkB (g + k) b0 = true := fun i b hl => by
      rw [look_ovr] at hl
      cases he : lkE (renE σ E) i with
      | none =>
        rw [he] at hl
        obtain ⟨j, b0, rfl, hj, _⟩ := look_renH hl
        exact absurd he (lkE_has (cover j (hiK' j b0 hj).1))
      | some ob =>
        rw [he] at hl
        simp only [Option.getD_some] at hl
        obtain ⟨j, ob0, rfl, hj, e⟩ := lkE_renE he
        subst hl
        cases ob0 with
        | none => simp at e
        | some b0 =>
          simp only [Option.map_some, Option.some.injEq] at e
          exact ⟨j, b0, rfl, (hEk j _ hj).1, hj, e, (hEk j _ hj).2 b0 rfl⟩
    refine { ag := fun i hi => by rw [hm2, if_neg hi], os := hr.os, tape := hr.tape, output := hr.output, size := hr.size, keep := fun q hq hne => hr.old q ⟨hq, fun i b hl hp => hne _ _ (renH_look σinj hiK (hiK' i b hl).1 hl) hp⟩, gk := hgk.1, gk2 := fun q hq => ?_, kb := hr.kb,
             vr := hvx.ren3 ρ σ (g + k) hm v rfl ok5, loc := fun i b hl hph => ?_, om := fun i b hl hph hq => ?_, own := fun i b hl => ?_, inj := fun i j bi bj hi hj hne => ?_ }
    · by_cases hlt : q < w.heap.size
      · by_cases hgv : ∃ i b, look Hi i = some b ∧ (m (σ i)).ph = false ∧ (m (σ i)).blk = q
        · obtain ⟨i, b, hl, hp, e⟩ := hgv
          exact .inr (.inr ⟨σ i, _, renH_look σinj hiK (hiK' i b hl).1 hl, hp, e⟩)
        · exact .inl (hgk.2 q hq ⟨hlt, fun i b hl hp e => hgv ⟨i, b, hl, hp, e⟩⟩)
      · exact .inr (.inl (by omega))
    · obtain ⟨j, b0, rfl, hjl, hj, _, _⟩ := live i b hl
      rw [(hm j hjl).1] at hph ⊢
      have ho := hr.oown _ _ (hfin.live j b0 (lkE_key hj)) hph
      by_cases hlt : (m' (ρ j)).blk < w.heap.size
      · right
        have : ∃ i b, look Hi i = some b ∧ (m (σ i)).ph = false ∧ (m (σ i)).blk = (m' (ρ j)).blk := by
          refine Classical.byContradiction fun hc => ho ⟨hlt, fun i b hl hp e => hc ⟨i, b, hl, hp, e⟩⟩
        obtain ⟨i, b, hl, hp, e⟩ := this
        exact ⟨σ i, _, renH_look σinj hiK (hiK' i b hl).1 hl, hp, e.symm⟩
      · exact .inl (by omega)
    · obtain ⟨j, b0, rfl, hjl, hj, rfl, _⟩ := live i b hl
      rw [(hm j hjl).1] at hph hq ⊢
      obtain ⟨g1, g2, ho⟩ := hr.om _ _ (hfin.live j b0 (lkE_key hj)) hph hq
      refine ⟨g1, g2, ?_⟩
      by_cases hlt : (m' (ρ j)).blk < w.heap.size
      · right
        have : ∃ i b, look Hi i = some b ∧ (m (σ i)).ph = false ∧ (m (σ i)).blk = (m' (ρ j)).blk := by
          refine Classical.byContradiction fun hc => ho ⟨hlt, fun i b hl hp e => hc ⟨i, b, hl, hp, e⟩⟩
        obtain ⟨i, b, hl, hp, e⟩ := this
        exact ⟨σ i, _, renH_look σinj hiK (hiK' i b hl).1 hl, hp, e.symm⟩
      · exact .inl (by omega)
    · obtain ⟨j, b0, rfl, hjl, hj, rfl, hid⟩ := live i b hl
      exact OB.ren3 ρ σ (g + k) (hr.own _ _ (hfin.live j b0 (lkE_key hj))) hjl hid hm
    · obtain ⟨i, b1, rfl, hil, hi, _, _⟩ := live i bi hi
      obtain ⟨j, b2, rfl, hjl, hj, _, _⟩ := live j bj hj
      rw [(hm i hil).1, (hm j hjl).1]
      have mem : ∀ {i : Nat} {b : Blk}, lkE E i = some (some b) → i ∈ (E.filterMap fun p => p.2.map fun _ => p.1) := fun {i b} h => List.mem_filterMap.2 ⟨(i, some b), lkE_key h, rfl⟩
      exact hr.inj _ _ _ _ (hfin.live i b1 (lkE_key hi)) (hfin.live j b2 (lkE_key hj)) (injB_spec hfin.inj i j (mem hi) (mem hj) (fun e => hne (by rw [e])))
  refine Go.wp_mono (h Old wi K _ _ w (fun i l hp => by simp only [wi] at hp; split at hp; · assumption
                                                        · cases hp) hr0 ht0) fun e a' w' ⟨T', H', n', m', K', hgk, q, hr, ht⟩ => ?_
  cases e with
  | normal => exact fin a' w' T' H' n' m' K' hgk q hr ht
  | ret => exact fin a' w' T' H' n' m' K' hgk q hr ht
  | exit id => exact q.elim
  | goto l => exact q.elim
  | panic ch => exact q.elim
  | outgrown => exact q.elim

section
variable {P : Program} {N : Nat} {ops : Array Oper} {bs ks : List Nat} {H₀ : Hp} {G : Tp → Hp → Nat → Prop} {i : Nat} {eff : List (Nat × List (Nat × Option Blk))} {o : Oper} {os : List Oper} {T : Tp} {n n' : Nat} {v : AV}
/-- in a region that draws its order: all that touches memory is ordered against such a call -/
theorem dr_callC {f : Operand} {g : FuncId} {xs : Array Operand} {ts : Array TypeId} {caps args : List AV} {Hi : Hp} {E : Ef} (hg : o.guard = none) (hd : dOk N o.dst = true) (hk : ks.getD i 0 = 2)
    (ho : o.op = .call { callee := .value f, args := xs, argTypes := ts })
    (hf : evalA (resT (o.looksAt ops) T) f = some (.fn g caps)) (ha : xs.toList.mapM (evalA (resT (o.looksAt ops) T)) = some args) (hro : RC P g (args ++ caps) Hi n v E n') (hHi : subE (selE (depM bs ks i) eff H₀) Hi)
    (h : DE P N ops bs ks H₀ G (i + 1) ((i, E) :: eff) os (put T o.dst v) n') : DE P N ops bs ks H₀ G i eff (o :: os) T n := fun pre hl he =>
  ⟨⟨o.dst, v, E, n, n'⟩, rfl, hro.2.1, ⟨rfl, hd, .inr ⟨.inl hg, .inr (.inr (.inr ⟨hk, ovr E (selE (depM bs ks i) eff H₀), fun _ => by rw [he], fun j ob hj => by
    rcases hro.2.2.1 j ob hj with hs | hs
    · obtain ⟨c, hc⟩ := Option.isSome_iff_exists.1 hs
      left; rw [he, subE_get hHi j c hc]; rfl
    · exact .inr hs, by rw [he]; exact s_callC ho hf ha hro hHi⟩))⟩⟩, h _ (by simp [hl]) (sel_add hl he _ _ _ _ _)⟩
end
end Go.Proofs.Ytglfcaioapdiaaa.Aw
