/-
  A region that draws its order: the moves.
-/
import Derived.Test.YtglfcaioapdiaaaAwDraw4
namespace Go.Proofs.Ytglfcaioapdiaaa.Aw
open Go Go.RowKit

theorem resT_look {T : Tp} {t : Nat} {v : AV} (h : look T t = some v) : ∀ {ts : List Tmp}, t ∈ ts → look (resT ts T) t = some v
  | [], hm => by cases hm
  | u :: ts, hm => by
    unfold resT
    rw [List.filterMap_cons]
    by_cases hu : u = t
    · subst hu
      simp only [h, Option.map_some, look_cons, if_true]
    · have hm' : t ∈ ts := by
        rcases List.mem_cons.1 hm with e | e
        · exact absurd e.symm hu
        · exact e
      have := resT_look h hm'
      unfold resT at this
      cases hl : look T u with
      | none => simpa using this
      | some x => simp only [Option.map_some, look_cons, if_neg hu]; exact this

theorem Step.monoT {P : Program} {o : Oper} {N : Nat} {T T' : Tp} {H H' : Hp} {n n' : Nat} {v : AV} {ro : Bool} (h : Step P o N T H n v H' n' ro) (ht : ∀ t v, look T t = some v → look T' t = some v) : Step P o N T' H n v H' n' ro :=
  ⟨h.1, fun Old wi K m S a w hS hr htr => h.2 Old wi K m S a w hS hr ⟨htr.dn, htr.sz, fun t v hl => htr.tm t v (ht t v hl)⟩⟩

/-- the effects alone, the newest first -/
def selE (L : Nat → Bool) : List (Nat × List (Nat × Option Blk)) → Hp → Hp
  | [], H => H
  | (j, E) :: r, H => match L j with
    | true => ovr E (selE L r H)
    | false => selE L r H

def DE (P : Program) (N : Nat) (ops : Array Oper) (bs ks : List Nat) (H₀ : Hp) (G : Tp → Hp → Nat → Prop) (i : Nat) (eff : List (Nat × List (Nat × Option Blk))) (os : List Oper) (T : Tp) (n : Nat) : Prop :=
  ∀ pre : List PO, pre.length = i → (∀ L, selH L 0 pre H₀ = selE L eff H₀) → DR P N ops bs ks H₀ G i pre os T n

section
variable {P : Program} {N : Nat} {ops : Array Oper} {bs ks : List Nat} {H₀ : Hp} {G : Tp → Hp → Nat → Prop} {i : Nat} {eff : List (Nat × List (Nat × Option Blk))} {o : Oper} {os : List Oper} {T : Tp} {n n' : Nat} {v : AV}

theorem aw_drawE {id g : Nat} {l : List Oper} {H : Hp} {Q : Exit → Tp → Hp → Nat → Prop} (bs ks : List Nat) (hm : P.follows .mixedOrders = true) (hc : chkB l bs ks = true) (h : DE P N l.toArray bs ks H (fun T H n => Q .normal T H n) 0 [] l T n) : AW P N g (.region id l.toArray true) Q T H n :=
  aw_draw bs ks hm hc (h [] rfl fun _ => rfl)

theorem sel_keep {pre : List PO} (h : ∀ L, selH L 0 pre H₀ = selE L eff H₀) (d : Option Nat) (v : AV) (a b : Nat) : ∀ L, selH L 0 (pre ++ [⟨d, v, [], a, b⟩]) H₀ = selE L eff H₀ := by
  intro L
  rw [selH_app, h]
  simp only [selH, ovr]
  cases L (0 + pre.length) <;> rfl
theorem sel_add {pre : List PO} (hl : pre.length = i) (h : ∀ L, selH L 0 pre H₀ = selE L eff H₀) (d : Option Nat) (v : AV) (E : List (Nat × Option Blk)) (a b : Nat) : ∀ L, selH L 0 (pre ++ [⟨d, v, E, a, b⟩]) H₀ = selE L ((i, E) :: eff) H₀ := by
  intro L
  rw [selH_app, h]
  simp only [selH, selE, Nat.zero_add, hl]
  cases L i <;> rfl

def effQ (sz : Nat) (bs : List Nat) (H₀ : Hp) (r : Nat × Nat) : List (Nat × List (Nat × Option Blk)) → Prop
  | [] => True
  | e :: l => (match lkE e.2 r.2 with
    | none => True
    | some ob => (Nat.blt e.1 sz && Nat.testBit (bs.getD e.1 0) r.1) = true ∨ look H₀ r.2 = ob) ∧ effQ sz bs H₀ r l
def effR (sz : Nat) (bs : List Nat) (H₀ : Hp) (eff : List (Nat × List (Nat × Option Blk))) : List (Nat × Nat) → Prop
  | [] => True
  | r :: R => effQ sz bs H₀ r eff ∧ effR sz bs H₀ eff R
theorem effR_get {sz : Nat} {bs : List Nat} {H₀ : Hp} {eff : List (Nat × List (Nat × Option Blk))} : ∀ {R : List (Nat × Nat)}, effR sz bs H₀ eff R → ∀ r ∈ R, effQ sz bs H₀ r eff
  | [], _, r, h => by cases h
  | q :: R, h, r, hr => by
    rcases List.mem_cons.1 hr with e | e
    · rw [e]; exact h.1
    · exact effR_get h.2 r e
theorem selE_keepQ {sz : Nat} {bs : List Nat} {H₀ : Hp} {L : Nat → Bool} {i id : Nat} (hL : ∀ j, j < sz → Nat.testBit (bs.getD j 0) i = true → L j = false) : ∀ (eff : List (Nat × List (Nat × Option Blk))), effQ sz bs H₀ (i, id) eff → look (selE L eff H₀) id = look H₀ id
  | [], _ => rfl
  | (j, E) :: r, h => by
    have ih := selE_keepQ hL r h.2
    have h1 := h.1
    simp only [selE]
    cases hLj : L j with
    | false => exact ih
    | true =>
      dsimp only
      rw [look_ovr]
      dsimp only at h1
      cases hl : lkE E id with
      | none => exact ih
      | some ob =>
        rw [hl] at h1
        dsimp only at h1
        rcases h1 with h1 | h1
        · simp only [Bool.and_eq_true, Nat.blt_eq] at h1
          have := hL j h1.1 h1.2
          rw [hLj] at this
          cases this
        · exact h1.symm
theorem dr_nil (hc : effR ops.size bs H₀ eff (rdP (ks.drop ops.size))) (h : G T (selE (fun _ => true) eff H₀) n) : DE P N ops bs ks H₀ G i eff [] T n := fun pre _ he => by
  show G T (selH (fun _ => true) 0 pre H₀) n ∧ KeepR ops bs ks H₀ pre
  refine ⟨by rw [he]; exact h, fun L k id hk hL => ?_⟩
  rw [he]
  exact selE_keepQ hL eff (effR_get hc (k, id) hk)
/-- it reads one block, which stands till then -/
theorem dr_r {id : Nat} {b : Blk} (hg : o.guard = none) (hd : dOk N o.dst = true) (hk : ks.getD i 0 = 0) (hR : (rdP (ks.drop ops.size)).contains (i, id) = true) (hl : look H₀ id = some b)
    (hs : ∀ H n, look H id = some b → Step P o N (resT (o.looksAt ops) T) H n v H n true)
    (h : DE P N ops bs ks H₀ G (i + 1) eff os (put T o.dst v) n) : DE P N ops bs ks H₀ G i eff (o :: os) T n := fun pre hlen he =>
  ⟨⟨o.dst, v, [], n, n⟩, rfl, Nat.le_refl _, ⟨rfl, hd, .inr ⟨.inl hg, .inl ⟨hk, rfl, rfl, fun H n hC => hs H n (by rw [hC id (by simpa using hR)]; exact hl)⟩⟩⟩, h _ (by simp [hlen]) (sel_keep he _ _ _ _)⟩

theorem dr_0 (hg : o.guard = none) (hd : dOk N o.dst = true) (hk : ks.getD i 0 = 0) (hs : ∀ H n, Step P o N (resT (o.looksAt ops) T) H n v H n true)
    (h : DE P N ops bs ks H₀ G (i + 1) eff os (put T o.dst v) n) : DE P N ops bs ks H₀ G i eff (o :: os) T n := fun pre hl he =>
  ⟨⟨o.dst, v, [], n, n⟩, rfl, Nat.le_refl _, ⟨rfl, hd, .inr ⟨.inl hg, (.inl ⟨hk, rfl, rfl, fun H n _ => hs H n⟩)⟩⟩, h _ (by simp [hl]) (sel_keep he _ _ _ _)⟩

theorem nil_in {lo hi : Nat} : ∀ (i : Nat) (b : Blk), look ([] : Hp) i = some b → lo ≤ i ∧ i < hi := fun i b hl => by simp [look_nil] at hl

/-- it reads -/
theorem dr_1 (hg : o.guard = none) (hd : dOk N o.dst = true) (hk : ks.getD i 0 = 1) (hs : Step P o N (resT (o.looksAt ops) T) (selE (depM bs ks i) eff H₀) n v (selE (depM bs ks i) eff H₀) n true)
    (h : DE P N ops bs ks H₀ G (i + 1) eff os (put T o.dst v) n) : DE P N ops bs ks H₀ G i eff (o :: os) T n := fun pre hl he =>
  ⟨⟨o.dst, v, [], n, n⟩, rfl, Nat.le_refl _, ⟨rfl, hd, .inr ⟨.inl hg, .inr (.inl ⟨hk, [], rfl, nil_in, by rw [he]; exact hs⟩)⟩⟩, h _ (by simp [hl]) (sel_keep he _ _ _ _)⟩

theorem one_in {n : Nat} (b : Blk) : ∀ (i : Nat) (c : Blk), look [(n, b)] i = some c → n ≤ i ∧ i < n + 1 := by
  intro i c hl
  rw [look_cons] at hl
  split at hl
  · rename_i he; subst he; exact ⟨Nat.le_refl _, Nat.lt_succ_self _⟩
  · cases hl
theorem two_in {id lo hi : Nat} {b : Blk} (b' : Blk) {Hd : Hp} (hl : look Hd id = some b) : ∀ (i : Nat) (ob : Option Blk), lkE [(id, some b')] i = some ob → (look Hd i).isSome = true ∨ (lo ≤ i ∧ i < hi) := by
  intro i ob h
  rw [lkE_cons] at h
  split at h
  · rename_i he; subst he; exact .inl (by rw [hl]; rfl)
  · cases h

/-- it makes one block -/
theorem dr_n {b : Blk} (hg : o.guard = none) (hd : dOk N o.dst = true) (hk : ks.getD i 0 = 1) (hs : Step P o N (resT (o.looksAt ops) T) (selE (depM bs ks i) eff H₀) n v ((n, b) :: selE (depM bs ks i) eff H₀) (n + 1) true)
    (h : DE P N ops bs ks H₀ G (i + 1) ((i, [(n, some b)]) :: eff) os (put T o.dst v) (n + 1)) : DE P N ops bs ks H₀ G i eff (o :: os) T n := fun pre hl he =>
  ⟨⟨o.dst, v, [(n, some b)], n, n + 1⟩, rfl, Nat.le_succ _, ⟨rfl, hd, .inr ⟨.inl hg, .inr (.inl ⟨hk, [(n, b)], rfl, one_in b, by rw [he]; exact hs⟩)⟩⟩, h _ (by simp [hl]) (sel_add hl he _ _ _ _ _)⟩

/-- it makes one block, whatever else is there -/
theorem dr_3 {b : Blk} (hg : o.guard = none) (hd : dOk N o.dst = true) (hk : ks.getD i 0 = 3) (hs : Step P o N (resT (o.looksAt ops) T) [] n v [(n, b)] (n + 1) true)
    (h : DE P N ops bs ks H₀ G (i + 1) ((i, [(n, some b)]) :: eff) os (put T o.dst v) (n + 1)) : DE P N ops bs ks H₀ G i eff (o :: os) T n := fun pre hl he =>
  ⟨⟨o.dst, v, [(n, some b)], n, n + 1⟩, rfl, Nat.le_succ _, ⟨rfl, hd, .inr ⟨.inl hg, .inr (.inr (.inl ⟨hk, [(n, b)], rfl, one_in b, hs⟩))⟩⟩, h _ (by simp [hl]) (sel_add hl he _ _ _ _ _)⟩

/-- it calls a function whose result is plain -/
theorem dr_c {f : Operand} {g : FuncId} {xs : Array Operand} {ts : Array TypeId} {caps args args' : List AV} (hg : o.guard = none) (hd : dOk N o.dst = true) (hk : ks.getD i 0 = 1)
    (ho : o.op = .call { callee := .value f, args := xs, argTypes := ts })
    (hf : evalA (resT (o.looksAt ops) T) f = some (.fn g caps)) (ha : xs.toList.mapM (evalA (resT (o.looksAt ops) T)) = some args) (hz : FzL (selE (depM bs ks i) eff H₀) (args ++ caps) args') (hro : RO P g args' n v [] n)
    (h : DE P N ops bs ks H₀ G (i + 1) eff os (put T o.dst v) n) : DE P N ops bs ks H₀ G i eff (o :: os) T n := fun pre hl he =>
  ⟨⟨o.dst, v, [], n, n⟩, rfl, hro.2.1, ⟨rfl, hd, .inr ⟨.inl hg, .inr (.inl ⟨hk, [], rfl, hro.2.2.1, s_call ho hf ha (by rw [he]; exact hz) hro⟩)⟩⟩, h _ (by simp [hl]) (sel_keep he _ _ _ _)⟩

/-- it calls a function that makes its result anew -/
theorem dr_cU {f : Operand} {g : FuncId} {xs : Array Operand} {ts : Array TypeId} {caps args args' : List AV} {U : Hp} (hg : o.guard = none) (hd : dOk N o.dst = true) (hk : ks.getD i 0 = 1)
    (ho : o.op = .call { callee := .value f, args := xs, argTypes := ts })
    (hf : evalA (resT (o.looksAt ops) T) f = some (.fn g caps)) (ha : xs.toList.mapM (evalA (resT (o.looksAt ops) T)) = some args) (hz : FzL (selE (depM bs ks i) eff H₀) (args ++ caps) args') (hro : RO P g args' n v U n')
    (h : DE P N ops bs ks H₀ G (i + 1) ((i, U.map (fun x => (x.1, some x.2))) :: eff) os (put T o.dst v) n') : DE P N ops bs ks H₀ G i eff (o :: os) T n := fun pre hl he =>
  ⟨⟨o.dst, v, U.map (fun x => (x.1, some x.2)), n, n'⟩, rfl, hro.2.1, ⟨rfl, hd, .inr ⟨.inl hg, .inr (.inl ⟨hk, U, rfl, hro.2.2.1, s_call ho hf ha (by rw [he]; exact hz) hro⟩)⟩⟩, h _ (by simp [hl]) (sel_add hl he _ _ _ _ _)⟩

/-- it writes one block -/
theorem dr_2 {id : Nat} {b b' : Blk} (hg : o.guard = none) (hd : dOk N o.dst = true) (hk : ks.getD i 0 = 2)
    (hs : Step P o N (resT (o.looksAt ops) T) (selE (depM bs ks i) eff H₀) n v (setH (selE (depM bs ks i) eff H₀) id b') n false) (hl : look (selE (depM bs ks i) eff H₀) id = some b)
    (h : DE P N ops bs ks H₀ G (i + 1) ((i, [(id, some b')]) :: eff) os (put T o.dst v) n) : DE P N ops bs ks H₀ G i eff (o :: os) T n := fun pre hlen he =>
  ⟨⟨o.dst, v, [(id, some b')], n, n⟩, rfl, Nat.le_refl _, ⟨rfl, hd, .inr ⟨.inl hg, .inr (.inr (.inr ⟨hk, setH (selE (depM bs ks i) eff H₀) id b', fun _ => by rw [he]; rfl, by rw [he]; exact two_in b' hl, by rw [he]; exact hs⟩))⟩⟩, h _ (by simp [hlen]) (sel_add hlen he _ _ _ _ _)⟩

/-- it uses up one block and makes another -/
theorem dr_app {id : Nat} {b0 b' : Blk} (hg : o.guard = none) (hd : dOk N o.dst = true) (hk : ks.getD i 0 = 2)
    (hs : Step P o N (resT (o.looksAt ops) T) (selE (depM bs ks i) eff H₀) n v ((n, b') :: del (selE (depM bs ks i) eff H₀) id) (n + 1) false) (hl : look (selE (depM bs ks i) eff H₀) id = some b0)
    (h : DE P N ops bs ks H₀ G (i + 1) ((i, [(n, some b'), (id, none)]) :: eff) os (put T o.dst v) (n + 1)) : DE P N ops bs ks H₀ G i eff (o :: os) T n := by
  intro pre hlen he
  have e1 : ∀ j, look ((n, b') :: del (selE (depM bs ks i) eff H₀) id) j = look (ovr [(n, some b'), (id, none)] (selH (depM bs ks i) 0 pre H₀)) j := fun j => by
    rw [he]
    simp only [ovr, look_cons]
    by_cases hj : n = j
    · rw [if_pos hj, if_pos hj]
    · rw [if_neg hj, if_neg hj, look_del_ne _ (fun e => hj e.symm)]
  have e2 : ∀ (j : Nat) (ob : Option Blk), lkE [(n, some b'), (id, none)] j = some ob → (look (selH (depM bs ks i) 0 pre H₀) j).isSome = true ∨ (n ≤ j ∧ j < n + 1) := fun j ob hj => by
    rw [lkE_cons] at hj
    split at hj
    · rename_i e; subst e; exact .inr ⟨Nat.le_refl _, Nat.lt_succ_self _⟩
    · rw [lkE_cons] at hj
      split at hj
      · rename_i e; subst e; left; rw [he, hl]; rfl
      · cases hj
  exact ⟨⟨o.dst, v, [(n, some b'), (id, none)], n, n + 1⟩, rfl, Nat.le_succ _, ⟨rfl, hd, .inr ⟨.inl hg, .inr (.inr (.inr ⟨hk, (n, b') :: del (selE (depM bs ks i) eff H₀) id, e1, e2, by rw [he]; exact hs⟩))⟩⟩, h _ (by simp [hlen]) (sel_add hlen he _ _ _ _ _)⟩

theorem fin_p {rs : List ResultVar} {u v : AV} {T : Tp} {H : Hp} (h : ResV P T H rs u) (e : u = v) (hr : renA id v = v) (h1 : idsOk 0 v = true) (h2 : noDeep v = true) : FinOk P rs v [] 0 T H :=
  ⟨⟨u, id, h, by rw [e, hr], trivial, rfl⟩, h1, h2, rfl⟩
theorem RO.ofp {f : FuncId} {fn : Func} {c : Code} {args : List AV} {v : AV} {rs : List ResultVar} (hf : P.funcs[f]? = some fn) (hN : fn.ntmps = N) (hb : fn.body = some c) (hg : goFn P f = true) (hl : Nat.ble args.length N = true) (hrs : fn.results.toList = rs)
    (hv : renA (fun i => i + n) v = v) (h : AW P N 0 c (Fin P rs v [] 0) (idx 0 args) [] 0) : RO P f args n v [] n := by
  subst hN hrs
  have := RO.of n 0 hf hb hg (by simpa using hl) (U := []) rfl h
  rw [hv] at this
  simpa [shH] using this
/-- the call of a function that returns a plain value -/
theorem RO.calls {f : FuncId} {args : List AV} {x : Value} {k k' : Nat} (h : RO P f args k (.v x) [] k') {K : Nat → Prop} {w : World} {xs : List Value} (hk : ∀ k, K k → k < w.heap.size) (hv : VRs K w args xs) :
    Calls P f xs.toArray w fun e w' => e = .returned x ∧ Below w.heap.size w w' :=
  (h.2.2.2 K w xs hk hv).mono fun e w' ⟨r, m', he, hn⟩ => by
    have := hn.vr
    cases this
    exact ⟨he, hn.below⟩
theorem VRs.nil {K : Nat → Prop} {w : World} : VRs K w [] [] := ⟨rfl, by simp⟩
theorem VRs.cons {K : Nat → Prop} {w : World} {v : AV} {x : Value} {vs : List AV} {xs : List Value} (h : VR K w (fun _ => ⟨0, 0, 0, false⟩) NoS v x) (hs : VRs K w vs xs) : VRs K w (v :: vs) (x :: xs) :=
  ⟨by simp [hs.1], fun j av y h1 h2 => by
    cases j with
    | zero => simp at h1 h2; subst h1 h2; exact h
    | succ j => simp at h1 h2; exact hs.2 j av y h1 h2⟩
theorem VR.aggv {K : Nat → Prop} {w : World} {m : Nat → Loc} {S : Nat → Prop} (xs : List Value) : VR K w m S (.agg (xs.map .v)) (.agg xs.toArray) :=
  .agg _ _ xs (by simp) fun j cv y h1 h2 => by rw [List.getElem?_map, h2] at h1; simp at h1; subst h1; exact .v _ _

variable {dst : Option Tmp} {op : Op} {ty : TypeId} {pos : String} {after : Array Edge}
theorem looks_guard {j t : Nat} {b : Bool} (hj : ((ops[j]?).bind (·.dst)) = some t) : t ∈ (⟨dst, op, ty, pos, after, some (j, b)⟩ : Oper).looksAt ops := by
  unfold Oper.looksAt
  simp [hj]
theorem looks_none {t : Nat} {g : Option (Nat × Bool)} (h : t ∈ (⟨dst, op, ty, pos, after, none⟩ : Oper).looksAt ops) : t ∈ (⟨dst, op, ty, pos, after, g⟩ : Oper).looksAt ops := by
  unfold Oper.looksAt at h ⊢
  simp only [List.append_nil] at h
  exact List.mem_append_left _ h
theorem resT_none {g : Option (Nat × Bool)} {t : Nat} {v : AV} (h : look (resT ((⟨dst, op, ty, pos, after, none⟩ : Oper).looksAt ops) T) t = some v) : look (resT ((⟨dst, op, ty, pos, after, g⟩ : Oper).looksAt ops) T) t = some v := by
  obtain ⟨h1, h2⟩ := look_resT h
  exact resT_look h2 (looks_none h1)

theorem dr_g {j t : Nat} {b b' : Bool} (hj : ((ops[j]?).bind (·.dst)) = some t) (htn : Nat.blt t N = true) (hl : look T t = some (.v (.bool b'))) (hb : b' = b)
    (h : DE P N ops bs ks H₀ G i eff (⟨dst, op, ty, pos, after, none⟩ :: os) T n) : DE P N ops bs ks H₀ G i eff (⟨dst, op, ty, pos, after, some (j, b)⟩ :: os) T n := by
  intro pre hlen he
  obtain ⟨p, h1, h2, ⟨e1, e2, hf⟩, h4⟩ := h pre hlen he
  subst hb
  refine ⟨p, h1, h2, ⟨e1, e2, ?_⟩, h4⟩
  rcases hf with ⟨_, _, _, _, hg, _⟩ | ⟨_, hk⟩
  · cases hg
  · refine .inr ⟨.inr ⟨j, b', t, rfl, hj, htn, resT_look hl (looks_guard hj)⟩, ?_⟩
    rcases hk with ⟨a1, a2, a3, a4⟩ | ⟨a1, U, a2, a3, a4⟩ | ⟨a1, U, a2, a3, a4⟩ | ⟨a1, H', a2, a3, a4⟩
    · exact .inl ⟨a1, a2, a3, fun H n hC => (a4 H n hC).monoT fun t v => resT_none⟩
    · exact .inr (.inl ⟨a1, U, a2, a3, a4.monoT fun t v => resT_none⟩)
    · exact .inr (.inr (.inl ⟨a1, U, a2, a3, a4.monoT fun t v => resT_none⟩))
    · exact .inr (.inr (.inr ⟨a1, H', a2, a3, a4.monoT fun t v => resT_none⟩))
theorem dr_s {j t : Nat} {b b' : Bool} (hj : ((ops[j]?).bind (·.dst)) = some t) (htn : Nat.blt t N = true) (hl : look T t = some (.v (.bool b'))) (hb : b' = !b) (hd : dOk N dst = true)
    (h : DE P N ops bs ks H₀ G (i + 1) eff os (put T dst (.v undef)) n) : DE P N ops bs ks H₀ G i eff (⟨dst, op, ty, pos, after, some (j, b)⟩ :: os) T n := fun pre hlen he =>
  ⟨⟨dst, .v undef, [], n, n⟩, rfl, Nat.le_refl _, ⟨rfl, hd, .inl ⟨j, b, t, .bool b', rfl, hj, htn, resT_look hl (looks_guard hj), by subst hb; cases b <;> rfl, rfl, rfl, rfl⟩⟩, h _ (by simp [hlen]) (sel_keep he _ _ _ _)⟩
theorem dr_sU {j t : Nat} {b : Bool} {y : Value} (hj : ((ops[j]?).bind (·.dst)) = some t) (htn : Nat.blt t N = true) (hl : look T t = some (.v y)) (hb : noG y b = true) (hd : dOk N dst = true)
    (h : DE P N ops bs ks H₀ G (i + 1) eff os (put T dst (.v undef)) n) : DE P N ops bs ks H₀ G i eff (⟨dst, op, ty, pos, after, some (j, b)⟩ :: os) T n := fun pre hlen he =>
  ⟨⟨dst, .v undef, [], n, n⟩, rfl, Nat.le_refl _, ⟨rfl, hd, .inl ⟨j, b, t, y, rfl, hj, htn, resT_look hl (looks_guard hj), hb, rfl, rfl, rfl⟩⟩, h _ (by simp [hlen]) (sel_keep he _ _ _ _)⟩
theorem dr_gs {j t : Nat} {b b' : Bool} (hj : ((ops[j]?).bind (·.dst)) = some t) (htn : Nat.blt t N = true) (hl : look T t = some (.v (.bool b'))) (hd : dOk N dst = true)
    (h1 : b' = b → DE P N ops bs ks H₀ G i eff (⟨dst, op, ty, pos, after, none⟩ :: os) T n)
    (h2 : b' = (!b) → DE P N ops bs ks H₀ G (i + 1) eff os (put T dst (.v undef)) n) : DE P N ops bs ks H₀ G i eff (⟨dst, op, ty, pos, after, some (j, b)⟩ :: os) T n := by
  by_cases hb : b' = b
  · exact dr_g hj htn hl hb (h1 hb)
  · have hb' : b' = !b := by cases b <;> cases b' <;> simp_all
    exact dr_s hj htn hl hb' hd (h2 hb')
end
end Go.Proofs.Ytglfcaioapdiaaa.Aw
