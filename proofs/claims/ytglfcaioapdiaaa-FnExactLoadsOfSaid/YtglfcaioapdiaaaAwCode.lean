/-
  Code, said of the abstract state: regions, tests, blocks, loops, a function's beginning and end.
-/
import Derived.Test.YtglfcaioapdiaaaAwCall
namespace Go.Proofs.Ytglfcaioapdiaaa.Aw
open Go Go.RowKit

def put (T : Tp) (d : Option Nat) (v : AV) : Tp := match d with
  | some d => (d, v) :: T
  | none => T
def dOk (N : Nat) (d : Option Nat) : Bool := match d with
  | some d => Nat.blt d N
  | none => true

theorem addS_lt {n n' : Nat} (h : n ≤ n') : addS (fun i => i < n) n n' = fun i => i < n' := by
  funext i
  exact propext ⟨fun h' => by rcases h' with h' | h' <;> omega, fun h' => by by_cases hi : i < n; exact .inl hi; exact .inr ⟨by omega, h'⟩⟩

section
variable {P : Program} {Old : Nat → Prop} {wi : WI} {K : Nat → Prop} {m m' : Nat → Loc} {S S' : Nat → Prop} {H : Hp} {w w' : World} {N n : Nat} {T : Tp} {o : Oper} {a : Act}

theorem TRel.mono {K' : Nat → Prop} (h : TRel K w m S N T a) (hK : ∀ k, K k → K' k) (hw : ∀ k, K k → w'.heap[k]? = w.heap[k]?) (hS : ∀ i, S i → S' i) (hm : ∀ i, S i → m' i = m i) : TRel K' w' m' S' N T a :=
  ⟨h.dn, h.sz, fun t av hl => (h.tm t av hl).mono hK hw hS hm⟩

theorem TRel.put {v : AV} {r : Value} {d : Option Nat} (h : TRel K w m S N T a) (hv : VR K w m S v r) (hd : dOk N d = true) : TRel K w m S N (Aw.put T d v) (a.put d r) := by
  cases d with
  | none => exact h
  | some d =>
    have hlt : d < N := by simpa [dOk, Nat.blt_eq] using hd
    refine ⟨h.dn, by simp [Act.put, h.sz], fun t av hl => ?_⟩
    simp only [Aw.put, look_cons] at hl
    split at hl
    · rename_i hdt
      subst hdt
      simp only [Option.some.injEq] at hl
      subst hl
      have : d < a.tmps.size := by rw [h.sz]; exact hlt
      simpa [Act.put, Array.getD, this] using hv
    · rename_i hdt
      have := h.tm t av hl
      simpa [Act.put, Array.getElem?_setIfInBounds_ne hdt] using this

/-- what stands behind an operation that was carried out -/
theorem Aft.trel {v : AV} {H' : Hp} {n' : Nat} {ro : Bool} {r : Value} {d : Option Nat} {K' : Nat → Prop} (ha : Aft Old wi K m (fun i => i < n) w n v H' n' ro r w' m' K') (hn : n ≤ n') (ht : TRel K w m (fun i => i < n) N T a) (hd : dOk N d = true) :
    Rel Old wi K' m' (fun i => i < n') H' w' ∧ TRel K' w' m' (fun i => i < n') N (put T d v) (a.put d r) := by
  have e := addS_lt hn
  refine ⟨e ▸ ha.rel, ?_⟩
  refine (ht.mono ha.gk.1 ha.kk (fun i hi => by omega) (fun i hi => ha.ag i (by omega))).put (e ▸ ha.vr) hd
end

def SQ (P : Program) (N : Nat) (all : Array Oper) (l : List Oper) (G : Tp → Hp → Nat → Prop) (T : Tp) (H : Hp) (n : Nat) : Prop :=
  ∀ (Old : Nat → Prop) (wi : WI) (K : Nat → Prop) (m : Nat → Loc) (a : Act) (w : World) (Q : Exit → Act → World → Prop), Rel Old wi K m (fun i => i < n) H w → TRel K w m (fun i => i < n) N T a →
    (∀ T' H' n' m' K' a' w', GK Old K K' → G T' H' n' → Rel Old wi K' m' (fun i => i < n') H' w' → TRel K' w' m' (fun i => i < n') N T' a' → Q Exit.normal a' w') → wpList P all Q l a w

section
variable {P : Program} {N n n' : Nat} {all : Array Oper} {l : List Oper} {G : Tp → Hp → Nat → Prop} {T : Tp} {H H' : Hp} {o : Oper} {v : AV} {ro : Bool}

theorem sq_nil (h : G T H n) : SQ P N all [] G T H n := fun _ _ K m a w _ hr ht hq => hq T H n m K a w (GK.refl _ _) h hr ht

theorem sq_step (hg : o.guard = none) (hd : dOk N o.dst = true) (hs : Step P o N T H n v H' n' ro) (h : SQ P N all l G (put T o.dst v) H' n') : SQ P N all (o :: l) G T H n := by
  intro Old wi K m a w Q hr ht hq
  unfold wpList
  rw [if_pos (by simp [Region.wanted, hg])]
  refine .inl (hs.2 Old wi K m _ a w (fun i h1 h2 h3 => by omega) hr ht _ Q fun r w' m' K' ha => ?_)
  obtain ⟨h1, h2⟩ := ha.trel hs.1 ht hd
  exact h Old wi K' m' _ w' Q h1 h2 fun T' H' n' m' K'' a' w' hg => hq T' H' n' m' K'' a' w' (ha.gk.trans hg)

theorem yielded_of {K : Nat → Prop} {m : Nat → Loc} {S : Nat → Prop} {w : World} {a : Act} {ops : Array Oper} {j t : Nat} {b : Bool} (ht : TRel K w m S N T a) (hj : ((ops[j]?).bind (·.dst)) = some t) (hl : look T t = some (.v (.bool b))) (htn : Nat.blt t N = true) : yielded ops a.tmps j = some b := by
  have hlt : t < a.tmps.size := by rw [ht.sz]; simpa [Nat.blt_eq] using htn
  have h1 := ht.tm t _ hl
  have h2 : a.tmps.getD t undef = a.tmps[t] := by simp [Array.getD, hlt]
  rw [h2] at h1
  generalize hx : a.tmps[t] = x at h1
  cases h1
  simp [yielded, hj, hlt, hx]

/-- a guard's value that is not b: an operation behind it is passed over -/
def noG (y : Value) (b : Bool) : Bool := match y with
  | .bool b' => !(b' == b)
  | _ => true
theorem yielded_no {K : Nat → Prop} {m : Nat → Loc} {S : Nat → Prop} {w : World} {a : Act} {ops : Array Oper} {j t : Nat} {y : Value} {b : Bool} (ht : TRel K w m S N T a) (hj : ((ops[j]?).bind (·.dst)) = some t) (hl : look T t = some (.v y)) (hn : noG y b = true) : (yielded ops a.tmps j == some b) = false := by
  have h1 := ht.tm t _ hl
  unfold yielded
  rw [hj]
  simp only [Option.bind_some]
  cases hx : a.tmps[t]? with
  | none => rfl
  | some x =>
    have h2 : a.tmps.getD t undef = x := by
      rw [Array.getD_eq_getD_getElem?, hx]; rfl
    rw [h2] at h1
    cases h1
    cases y <;> simp_all [noG]

/-- a guarded operation that is wanted -/
theorem sq_want {j t : Nat} {b : Bool} (hg : o.guard = some (j, b)) (hj : ((all[j]?).bind (·.dst)) = some t) (htn : Nat.blt t N = true) (hl : look T t = some (.v (.bool b))) (hd : dOk N o.dst = true) (hs : Step P o N T H n v H' n' ro)
    (h : SQ P N all l G (put T o.dst v) H' n') : SQ P N all (o :: l) G T H n := by
  intro Old wi K m a w Q hr ht hq
  unfold wpList
  rw [if_pos (by simp [Region.wanted, hg, yielded_of ht hj hl htn])]
  refine .inl (hs.2 Old wi K m _ a w (fun i h1 h2 h3 => by omega) hr ht _ Q fun r w' m' K' ha => ?_)
  obtain ⟨h1, h2⟩ := ha.trel hs.1 ht hd
  exact h Old wi K' m' _ w' Q h1 h2 fun T' H' n' m' K'' a' w' hg => hq T' H' n' m' K'' a' w' (ha.gk.trans hg)

/-- a guarded operation that is not wanted -/
theorem sq_skip {j t : Nat} {b b' : Bool} (hg : o.guard = some (j, b)) (hj : ((all[j]?).bind (·.dst)) = some t) (htn : Nat.blt t N = true) (hl : look T t = some (.v (.bool b'))) (hne : (b' == b) = false) (hd : dOk N o.dst = true)
    (h : SQ P N all l G (put T o.dst (.v undef)) H n) : SQ P N all (o :: l) G T H n := by
  intro Old wi K m a w Q hr ht hq
  unfold wpList
  have hb : b' ≠ b := by simpa using hne
  rw [if_neg (by simp [Region.wanted, hg, yielded_of ht hj hl htn, hb])]
  exact h Old wi K m _ w Q hr (ht.put (.v _ _) hd) hq
theorem sq_skipU {j t : Nat} {b : Bool} {y : Value} (hg : o.guard = some (j, b)) (hj : ((all[j]?).bind (·.dst)) = some t) (hl : look T t = some (.v y)) (hne : noG y b = true) (hd : dOk N o.dst = true)
    (h : SQ P N all l G (put T o.dst (.v undef)) H n) : SQ P N all (o :: l) G T H n := by
  intro Old wi K m a w Q hr ht hq
  unfold wpList
  rw [if_neg (by simp only [Region.wanted, hg, yielded_no ht hj hl hne]; decide)]
  exact h Old wi K m _ w Q hr (ht.put (.v _ _) hd) hq
end

def AW (P : Program) (N g : Nat) (c : Code) (Q : Exit → Tp → Hp → Nat → Prop) (T : Tp) (H : Hp) (n : Nat) : Prop :=
  ∀ (Old : Nat → Prop) (wi : WI) (K : Nat → Prop) (m : Nat → Loc) (a : Act) (w : World), (∀ i l, wi.pin i = some l → i < g) → Rel Old wi K m (fun i => i < n) H w → TRel K w m (fun i => i < n) N T a →
    c.wp P (fun e a' w' => ∃ T' H' n' m' K', GK Old K K' ∧ Q e T' H' n' ∧ Rel Old wi K' m' (fun i => i < n') H' w' ∧ TRel K' w' m' (fun i => i < n') N T' a') a w

def Thn (G : Tp → Hp → Nat → Prop) (Q : Exit → Tp → Hp → Nat → Prop) : Exit → Tp → Hp → Nat → Prop
  | .normal, T, H, n => G T H n
  | e, T, H, n => Q e T H n
def InB (id : Nat) (Q : Exit → Tp → Hp → Nat → Prop) : Exit → Tp → Hp → Nat → Prop
  | .exit id', T, H, n => if id' = id then Q .normal T H n else Q (.exit id') T H n
  | e, T, H, n => Q e T H n

section
variable {P : Program} {N g n : Nat} {Q : Exit → Tp → Hp → Nat → Prop} {T : Tp} {H : Hp}

theorem AW.mono {c : Code} {Q' : Exit → Tp → Hp → Nat → Prop} (h : AW P N g c Q T H n) (hq : ∀ e T H n, Q e T H n → Q' e T H n) : AW P N g c Q' T H n :=
  fun Old wi K m a w hp hr ht => Go.wp_mono (h Old wi K m a w hp hr ht) fun _ _ _ ⟨T', H', n', m', K', gk, h1, h2⟩ => ⟨T', H', n', m', K', gk, hq _ _ _ _ h1, h2⟩

theorem aw_seq {x y : Code} (h : AW P N g x (Thn (AW P N g y Q) Q) T H n) : AW P N g (.seq x y) Q T H n := fun Old wi K m a w hp hr ht =>
  Go.wp_seq (Go.wp_mono (h Old wi K m a w hp hr ht) fun e a' w' ⟨T', H', n', m', K', gk, h1, h2, h3⟩ => by
    cases e <;> first
      | exact Go.wp_mono (h1 Old wi K' m' a' w' hp h2 h3) fun e a' w' ⟨T', H', n', m', K'', g', h1, h2, h3⟩ => ⟨T', H', n', m', K'', gk.trans g', h1, h2, h3⟩
      | exact ⟨T', H', n', m', K', gk, h1, h2, h3⟩)

theorem aw_skip (h : Q .normal T H n) : AW P N g .skip Q T H n := fun _ _ K m _ _ _ hr ht => Go.wp_skip ⟨T, H, n, m, K, GK.refl _ _, h, hr, ht⟩
theorem aw_exit {id : Nat} (h : Q (.exit id) T H n) : AW P N g (.exit id) Q T H n := fun _ _ K m _ _ _ hr ht => Go.wp_exit ⟨T, H, n, m, K, GK.refl _ _, h, hr, ht⟩
theorem aw_ret (h : Q .ret T H n) : AW P N g .ret Q T H n := fun _ _ K m _ _ _ hr ht => Go.wp_ret ⟨T, H, n, m, K, GK.refl _ _, h, hr, ht⟩

theorem aw_cond {c : Operand} {x y : Code} {t : Bool} (hc : evalA T c = some (.v (.bool t))) (h1 : t = true → AW P N g x Q T H n) (h2 : t = false → AW P N g y Q T H n) : AW P N g (.cond c x y) Q T H n := by
  intro Old wi K m a w hp hr ht
  have hv := ht.eval hc
  generalize hx : a.eval c = cv at hv
  cases hv
  exact Go.wp_cond_split hx (fun e => h1 e Old wi K m a w hp hr ht) (fun e => h2 e Old wi K m a w hp hr ht)

theorem aw_block {id : Nat} {c : Code} (h : AW P N g c (InB id Q) T H n) : AW P N g (.block id c) Q T H n := fun Old wi K m a w hp hr ht =>
  Go.wp_block (Go.wp_mono (h Old wi K m a w hp hr ht) fun e a' w' ⟨T', H', n', m', K', gk, h1, h2, h3⟩ => by
    cases e with
    | exit id' =>
      by_cases hid : id' = id
      · simp only [InB, hid, if_true] at h1
        simp only [Exit.inBlock, hid, if_true]
        exact ⟨T', H', n', m', K', gk, h1, h2, h3⟩
      · simp only [InB, hid, if_false] at h1
        simp only [Exit.inBlock, hid, if_false]
        exact ⟨T', H', n', m', K', gk, h1, h2, h3⟩
    | normal => exact ⟨T', H', n', m', K', gk, h1, h2, h3⟩
    | goto l => exact ⟨T', H', n', m', K', gk, h1, h2, h3⟩
    | ret => exact ⟨T', H', n', m', K', gk, h1, h2, h3⟩
    | panic ch => exact ⟨T', H', n', m', K', gk, h1, h2, h3⟩
    | outgrown => exact ⟨T', H', n', m', K', gk, h1, h2, h3⟩)

theorem aw_region {id : Nat} {l : List Oper} (h : SQ P N l.toArray l (fun T H n => Q .normal T H n) T H n) : AW P N g (.region id l.toArray false) Q T H n :=
  fun Old wi K m a w _ hr ht => wp_region_lit (h Old wi K m a w _ hr ht fun T' H' n' m' K' _ _ g h1 h2 h3 => ⟨T', H', n', m', K', g, h1, h2, h3⟩)

/-- a loop, by a number that falls -/
theorem wp_loop_ix {c : Code} {Q : Exit → Act → World → Prop} (I : Nat → Act → World → Prop) (k : Nat) {a : Act} {w : World} (h₀ : I k a w)
    (round : ∀ k a w, I k a w → c.wp P (Exit.then (fun a' w' => ∃ k', k' < k ∧ I k' a' w') Q) a w) : (Code.loop c).wp P Q a w := by
  intro b kk cs
  have key : ∀ n a w, I n a w → ∃ e a' w', Q e a' w' ∧ Arrives P (lone (b.at a (.code c :: .inLoop c :: kk)) cs w) b kk cs e a' w' := by
    intro n
    induction n using Nat.strongRecOn with
    | _ n ih =>
      intro a w hI
      obtain ⟨e, a₁, w₁, hq, harr⟩ := round n a w hI b (.inLoop c :: kk) cs
      cases e with
      | normal =>
        obtain ⟨k', hlt, hI₁⟩ := hq
        obtain ⟨e₂, a₂, w₂, hq₂, harr₂⟩ := ih k' hlt a₁ w₁ hI₁
        exact ⟨e₂, a₂, w₂, hq₂, .of_steps (Steps.trans harr (.one step_inLoop)) harr₂⟩
      | exit id => exact ⟨_, a₁, w₁, hq, .pass (x := .inLoop c) rfl (fun _ _ => .inl (by simp)) harr⟩
      | goto l => exact ⟨_, a₁, w₁, hq, .pass (x := .inLoop c) rfl (fun _ _ => .inl (by simp)) harr⟩
      | ret => exact ⟨_, a₁, w₁, hq, .pass (x := .inLoop c) rfl (fun _ _ => .inl (by simp)) harr⟩
      | panic ch => exact ⟨_, a₁, w₁, hq, .pass (x := .inLoop c) rfl (fun _ _ => .inl (by simp)) harr⟩
      | outgrown => exact ⟨_, a₁, w₁, hq, .pass (x := .inLoop c) rfl (fun _ _ => .inl (by simp)) harr⟩
  obtain ⟨e, a', w', hq, harr⟩ := key _ a w h₀
  exact ⟨e, a', w', hq, .of_steps (.one step_loop) harr⟩

end
end Go.Proofs.Ytglfcaioapdiaaa.Aw
