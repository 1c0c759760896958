/-
  The way along the distances, in plain terms: it is the best route.
-/
import Derived.Test.YtglfcaioapdiaaaFtQ
import Derived.Test.YtglfcaioapdiaaaLkB
namespace Go.Proofs.Ytglfcaioapdiaaa.Bk
open Go
set_option linter.unusedSimpArgs false
set_option linter.unusedVariables false

/-- a link to a node that lies one step nearer -/
def gok (F : Far) (x : Int) (l : Ln) : Bool := othB x l && (fc F (othV x l) + l.o == fc F x && fl F (othV x l) + 1 == fl F x)
def gst (F : Far) (x : Int) (b : Int) (l : Ln) : Int := if gok F x l then min b (othV x l) else b
def gmin (F : Far) (n x : Int) (ls : List Ln) (i : Nat) : Int := (ls.take i).foldl (gst F x) n
theorem gmin_succ {F : Far} {n x : Int} {ls : List Ln} {i : Nat} (h : i < ls.length) : gmin F n x ls (i + 1) = gst F x (gmin F n x ls i) ls[i] := by
  rw [gmin, List.take_succ_eq_append_getElem h, List.foldl_append]; rfl
theorem gfold_le (F : Far) (x : Int) : ∀ (ls : List Ln) (b : Int), ls.foldl (gst F x) b ≤ b ∧ ∀ l ∈ ls, gok F x l = true → ls.foldl (gst F x) b ≤ othV x l
  | [], b => ⟨Int.le_refl _, by simp⟩
  | l :: ls, b => by
    obtain ⟨h1, h2⟩ := gfold_le F x ls (gst F x b l)
    have h3 : gst F x b l ≤ b := by unfold gst; split <;> omega
    refine ⟨by simp only [List.foldl_cons]; omega, fun z hz hk => ?_⟩
    simp only [List.foldl_cons]
    rcases List.mem_cons.1 hz with e | hz
    · subst e
      have : gst F x b z ≤ othV x z := by unfold gst; rw [hk]; simp only [if_true]; omega
      omega
    · exact h2 z hz hk
theorem gfold_in (F : Far) (x : Int) : ∀ (ls : List Ln) (b : Int), ls.foldl (gst F x) b = b ∨ ∃ l ∈ ls, gok F x l = true ∧ ls.foldl (gst F x) b = othV x l
  | [], b => .inl rfl
  | l :: ls, b => by
    simp only [List.foldl_cons]
    rcases gfold_in F x ls (gst F x b l) with h | ⟨z, hz, hk, e⟩
    · rw [h]
      unfold gst
      split
      · rename_i hk
        by_cases hb : b ≤ othV x l
        · exact .inl (by omega)
        · exact .inr ⟨l, List.mem_cons_self, hk, by omega⟩
      · exact .inl rfl
    · exact .inr ⟨z, List.mem_cons_of_mem _ hz, hk, e⟩
theorem EL.oth {ls : List Ln} {x : Int} {l : Ln} (hl : l ∈ ls) (h : othB x l = true) : EL ls x (othV x l) l.o := by
  simp only [othB, Bool.or_eq_true, beq_iff_eq] at h
  refine ⟨l, hl, ?_, rfl⟩
  unfold othV
  grind
theorem oth_of {ls : List Ln} {x y o : Int} (h : EL ls x y o) : ∃ l ∈ ls, othB x l = true ∧ othV x l = y ∧ l.o = o := by
  obtain ⟨l, hl, hor, e⟩ := h
  refine ⟨l, hl, ?_, ?_, e.symm⟩
  · unfold othB; grind
  · unfold othV; grind

section
variable {n to : Int} {ls : List Ln} {F : Far}
/-- what is known of the distances -/
structure FW (n to : Int) (ls : List Ln) (F : Far) : Prop where
  ok : LnsOk n ls
  n12 : n ≤ 12
  rt : 0 ≤ to ∧ to < n
  good : FG (EL ls) to n F
  fix : Fix ls F
theorem FW.of (hL : LnsOk n ls) (hn : n ≤ 12) (ht : 0 ≤ to ∧ to < n) : FW n to ls (farR n ls to) := ⟨hL, hn, ht, (farR_spec hL hn ht).1, (farR_spec hL hn ht).2⟩
variable (h : FW n to ls F)
include h
theorem FW.bd {x : Int} (hx : fh F x = true) : 0 ≤ fc F x ∧ fc F x ≤ 12000000 ∧ 0 ≤ fl F x ∧ fl F x ≤ 11 ∧ 0 ≤ x ∧ x < n :=
  FG.bd (fun _ _ _ => EL.ok h.ok) h.rt (fun _ _ _ => EL.le h.ok) h.n12 h.good (fget_of hx)
theorem FW.bc (x : Int) : 0 ≤ fc F x ∧ fc F x ≤ 12000000 ∧ 0 ≤ fl F x ∧ fl F x ≤ 11 :=
  FG.bc (fun _ _ _ => EL.ok h.ok) h.rt (fun _ _ _ => EL.le h.ok) h.n12 h.good x
theorem FW.at0 : fh F to = true ∧ fc F to = 0 ∧ fl F to = 0 := by
  obtain ⟨v, hv, hle⟩ := h.good.st
  have hh : fh F to = true := by unfold fh; rw [hv]; rfl
  have hb := h.bd hh
  have e : v = (fc F to, fl F to) := by have := fget_of hh; rw [hv] at this; simpa using this
  rw [e] at hle
  unfold leF at hle
  simp only at hle
  exact ⟨hh, by omega, by omega⟩
theorem FW.zero {x : Int} (hx : fh F x = true) (h0 : fl F x = 0) : x = to := by
  obtain ⟨p, hp, hl, _⟩ := h.good.pth x _ _ (fget_of hx)
  rcases hp.head with ⟨_, _, e⟩ | ⟨y, o, c', q, e, _, _, hq, _⟩
  · exact e
  · have := hq.ne
    have h1 : q.length ≠ 0 := fun e => this (List.length_eq_zero_iff.1 e)
    rw [e] at hl
    simp only [List.length_cons] at hl
    omega
theorem FW.ne {x : Int} (hx : fh F x = true) (h0 : 0 < fl F x) : x ≠ to := fun e => by rw [e] at h0; have := h.at0.2.2; omega
/-- a way of this length: its last step but one -/
theorem FW.cand {x : Int} (hx : fh F x = true) (h0 : 0 < fl F x) : ∃ l ∈ ls, gok F x l = true := by
  obtain ⟨p, hp, hl, _⟩ := h.good.pth x _ _ (fget_of hx)
  generalize hcx : fc F x = cx at hp
  cases hp with
  | one => simp at hl; omega
  | @step p c z _ o hp he hy =>
    obtain ⟨v, hv, hle⟩ := far_least h.good h.fix hp
    have hz : fh F z = true := by unfold fh; rw [hv]; rfl
    have ev : v = (fc F z, fl F z) := by have := fget_of hz; rw [hv] at this; simpa using this
    have hf := h.fix z x o he
    simp only [fimp, hz, hx, Bool.true_and, Bool.not_true, Bool.false_or] at hf
    have hle2 := leF_of_not hf
    obtain ⟨l, hl', g1, g2, g3⟩ := oth_of he.symm
    refine ⟨l, hl', ?_⟩
    simp only [List.length_append, List.length_singleton] at hl
    rw [ev] at hle
    unfold leF at hle hle2
    simp only at hle hle2
    simp only [gok, g1, g2, g3, Bool.true_and, Bool.and_eq_true, beq_iff_eq]
    omega
theorem FW.next {x : Int} (hx : fh F x = true) (h0 : 0 < fl F x) : ∃ l ∈ ls, gok F x l = true ∧ gmin F n x ls ls.length = othV x l ∧ (∀ l' ∈ ls, gok F x l' = true → gmin F n x ls ls.length ≤ othV x l') := by
  obtain ⟨l, hl, hk⟩ := h.cand hx h0
  obtain ⟨h1, h2⟩ := gfold_le F x ls n
  have e : gmin F n x ls ls.length = ls.foldl (gst F x) n := by rw [gmin, List.take_length]
  rw [e]
  rcases gfold_in F x ls n with h3 | ⟨l', hl', hk', e'⟩
  · have := h2 l hl hk
    have h4 := (EL.ok h.ok (EL.oth hl (by simp only [gok, Bool.and_eq_true] at hk; exact hk.1))).2.2.2
    omega
  · exact ⟨l', hl', hk', e', h2⟩
theorem FW.step {x : Int} (hx : fh F x = true) {l : Ln} (hl : l ∈ ls) (hk : gok F x l = true) : EL ls x (othV x l) l.o ∧ fh F (othV x l) = true ∧ fc F (othV x l) + l.o = fc F x ∧ fl F (othV x l) + 1 = fl F x := by
  simp only [gok, Bool.and_eq_true, beq_iff_eq] at hk
  have he := EL.oth hl hk.1
  refine ⟨he, ?_, hk.2.1, hk.2.2⟩
  have hf := h.fix _ _ _ he
  simp only [fimp, hx, Bool.true_and, Bool.or_eq_false_iff, Bool.not_eq_false'] at hf
  exact hf.1
end

/-- the k-th node of the way -/
def gat (F : Far) (n : Int) (ls : List Ln) (frm : Int) : Nat → Int
  | 0 => frm
  | k + 1 => gmin F n (gat F n ls frm k) ls ls.length
def rlist (F : Far) (n : Int) (ls : List Ln) (frm : Int) (k : Nat) : List Int := (List.range (k + 1)).map (gat F n ls frm)
theorem rlist_succ (F : Far) (n : Int) (ls : List Ln) (frm : Int) (k : Nat) : rlist F n ls frm (k + 1) = rlist F n ls frm k ++ [gat F n ls frm (k + 1)] := by
  simp [rlist, List.range_succ]
theorem rlist_len (F : Far) (n : Int) (ls : List Ln) (frm : Int) (k : Nat) : (rlist F n ls frm k).length = k + 1 := by simp [rlist]
theorem rlist_cons (F : Far) (n : Int) (ls : List Ln) (frm : Int) (k : Nat) : rlist F n ls frm (k + 1) = frm :: rlist F n ls (gat F n ls frm 1) k := by
  have : ∀ j, gat F n ls frm (j + 1) = gat F n ls (gat F n ls frm 1) j := fun j => by
    induction j with
    | zero => rfl
    | succ j ih => rw [gat, ih]; rfl
  unfold rlist
  rw [List.range_succ_eq_map, List.map_cons, List.map_map]
  congr 1
  refine List.map_congr_left fun j _ => ?_
  simp only [Function.comp, Nat.succ_eq_add_one]
  exact this j
section
variable {n to : Int} {ls : List Ln} {F : Far} (h : FW n to ls F)
include h
theorem FW.at {frm : Int} (hf : fh F frm = true) : ∀ k : Nat, (k : Int) ≤ fl F frm → fh F (gat F n ls frm k) = true ∧ fl F (gat F n ls frm k) = fl F frm - k
  | 0, _ => ⟨hf, by simp [gat]⟩
  | k + 1, hk => by
    obtain ⟨h1, h2⟩ := FW.at hf k (by omega)
    obtain ⟨l, hl, hg, e, _⟩ := h.next h1 (by omega)
    obtain ⟨_, s2, _, s4⟩ := h.step h1 hl hg
    rw [gat, e]
    exact ⟨s2, by omega⟩
/-- the whole way is a way, with the cost of the distance -/
theorem FW.way : ∀ (k : Nat) {frm : Int}, fh F frm = true → fl F frm = k → Pt (EL ls) frm (rlist F n ls frm k) (fc F frm) to ∧ ∀ y ∈ rlist F n ls frm k, fh F y = true ∧ fl F y ≤ k
  | 0, frm, hf, h0 => by
    have e := h.zero hf (by omega)
    subst e
    rw [h.at0.2.1]
    refine ⟨.one, fun y hy => ?_⟩
    simp [rlist, gat] at hy
    subst hy
    exact ⟨hf, by omega⟩
  | k + 1, frm, hf, h0 => by
    obtain ⟨l, hl, hg, e, _⟩ := h.next hf (by omega)
    obtain ⟨s1, s2, s3, s4⟩ := h.step hf hl hg
    have e1 : gat F n ls frm 1 = othV frm l := e
    obtain ⟨g1, g2⟩ := FW.way k s2 (by omega)
    rw [rlist_cons, e1]
    refine ⟨?_, fun y hy => ?_⟩
    · have := Pt.cons g1 s1 (fun hm => by have := (g2 frm hm).2; omega)
      rw [show fc F frm = l.o + fc F (othV frm l) by omega]
      exact this
    · rcases List.mem_cons.1 hy with rfl | hy
      · exact ⟨hf, by omega⟩
      · exact ⟨(g2 y hy).1, by have := (g2 y hy).2; omega⟩
/-- no way of the same cost and length comes earlier -/
theorem FW.first : ∀ (k : Nat) {frm : Int} {p : List Int} {c : Int}, fh F frm = true → fl F frm = k → Pt (EL ls) frm p c to → c = fc F frm → p.length = k + 1 → lessL p (rlist F n ls frm k) = false
  | 0, frm, p, c, hf, h0, hp, hc, hl => by
    rcases hp.head with ⟨e, _, _⟩ | ⟨y, o, c', q, e, _, _, hq, _⟩
    · subst e; simp [rlist, gat, lessL]
    · have h1 : q.length ≠ 0 := fun e => hq.ne (List.length_eq_zero_iff.1 e)
      rw [e] at hl; simp at hl; exact absurd hl (by simpa using h1)
  | k + 1, frm, p, c, hf, h0, hp, hc, hl => by
    rcases hp.head with ⟨e, _, _⟩ | ⟨y, o, c', q, e, he, ec, hq, _⟩
    · rw [e] at hl; simp at hl
    · subst e ec
      simp only [List.length_cons, Nat.add_right_cancel_iff] at hl
      obtain ⟨v, hv, hle⟩ := far_least h.good h.fix (hq.rev fun x y o h => h.symm)
      have hy : fh F y = true := by unfold fh; rw [hv]; rfl
      have ev : v = (fc F y, fl F y) := by have := fget_of hy; rw [hv] at this; simpa using this
      have hfx := h.fix y frm o he.symm
      simp only [fimp, hy, hf, Bool.true_and, Bool.not_true, Bool.false_or] at hfx
      have hle2 := leF_of_not hfx
      rw [ev] at hle
      unfold leF at hle hle2
      simp only [List.length_reverse] at hle hle2
      have c1 : fc F y = c' := by omega
      have c2 : fl F y = k := by omega
      obtain ⟨l, hl', g1, g2, g3⟩ := oth_of he
      have hg : gok F frm l = true := by
        simp only [gok, g1, g2, g3, Bool.true_and, Bool.and_eq_true, beq_iff_eq]; omega
      obtain ⟨l1, hl1, hk1, e1, hmin⟩ := h.next hf (by omega)
      have hm := hmin l hl' hg
      rw [g2] at hm
      have e2 : gat F n ls frm 1 = gmin F n frm ls ls.length := rfl
      rw [rlist_cons, lessL, if_pos rfl, e2]
      -- the first of the two tails
      have hd : ∀ z k, ∃ t, rlist F n ls z k = z :: t := fun z k => by
        cases k with
        | zero => exact ⟨[], rfl⟩
        | succ k => exact ⟨_, rlist_cons F n ls z k⟩
      by_cases hlt : gmin F n frm ls ls.length = y
      · rw [hlt]
        exact FW.first k hy (by omega) hq (by omega) hl
      · obtain ⟨t, ht⟩ := hd (gmin F n frm ls ls.length) k
        rw [ht]
        rcases hq.head with ⟨eq, _, _⟩ | ⟨_, _, _, q', eq, _, _, _, _⟩
        · subst eq
          rw [lessL, if_neg (fun e => hlt e.symm)]
          simp only [decide_eq_false_iff_not]; omega
        · subst eq
          rw [lessL, if_neg (fun e => hlt e.symm)]
          simp only [decide_eq_false_iff_not]; omega
end

/-- what the program's route is: nothing, or the way along the distances -/
def goR (n : Int) (ls : List Ln) (frm to : Int) : Option (List Int) := if fh (farR n ls to) frm then some (rlist (farR n ls to) n ls frm (fl (farR n ls to) frm).toNat) else none
/-- .. and that is the reference's route, whenever its links are these -/
theorem goR_eq {n frm to : Int} {ls ls' : List Ln} {may : List Bool} {counts : Bool} (hL : LnsOk n ls) (hL' : LnsOk n ls') (hn : n ≤ 12) (hf : 0 ≤ frm ∧ frm < n) (ht : 0 ≤ to ∧ to < n) (hE : ∀ x y o, EL ls x y o ↔ Lk ls' may counts x y o) :
    goR n ls frm to = if (routeW n ls' may counts frm to).f then some (routeW n ls' may counts frm to).p else none := by
  have hEE : EL ls = Lk ls' may counts := by funext x y o; exact propext (hE x y o)
  have hFW := FW.of (to := to) hL hn ht
  obtain ⟨r1, r2⟩ := route_spec (E := EL ls) (s := frm) (n := n) (fun _ _ _ => EL.ok hL) hf hEE ht
  unfold goR
  cases hh : fh (farR n ls to) frm with
  | false =>
    have : (routeW n ls' may counts frm to).f = false := by
      cases hr : (routeW n ls' may counts frm to).f with
      | false => rfl
      | true =>
        obtain ⟨v, hv, _⟩ := far_least hFW.good hFW.fix ((r1 hr).rev fun x y o h => h.symm)
        unfold fh at hh; rw [hv] at hh; cases hh
    rw [this]; rfl
  | true =>
    have hb := hFW.bd hh
    obtain ⟨w1, w2⟩ := hFW.way (fl (farR n ls to) frm).toNat hh (by omega)
    obtain ⟨r3, r4⟩ := r2 _ _ w1
    rw [r3]
    simp only [if_true, Option.some.injEq]
    have hR := r1 r3
    obtain ⟨v, hv, hle⟩ := far_least hFW.good hFW.fix (hR.rev fun x y o h => h.symm)
    have ev : v = (fc (farR n ls to) frm, fl (farR n ls to) frm) := by have := fget_of hh; rw [hv] at this; simpa using this
    rw [ev] at hle
    have hlen := rlist_len (farR n ls to) n ls frm (fl (farR n ls to) frm).toNat
    generalize hG : rlist (farR n ls to) n ls frm (fl (farR n ls to) frm).toNat = G at *
    generalize routeW n ls' may counts frm to = R at *
    -- same cost and length
    have same : R.c = fc (farR n ls to) frm ∧ R.p.length = G.length := by
      unfold leF at hle
      unfold leK ltK at r4
      simp only [List.length_reverse] at hle r4
      omega
    have hfirst := hFW.first (fl (farR n ls to) frm).toNat hh (by omega) hR same.1 (by omega)
    rw [hG] at hfirst
    refine (lessL_tri R.p G same.2 hfirst ?_).symm
    cases hc : lessL G R.p with
    | false => rfl
    | true =>
      refine absurd ?_ r4
      unfold ltK
      exact .inr ⟨same.1.symm, .inr ⟨same.2.symm, hc⟩⟩
end Go.Proofs.Ytglfcaioapdiaaa.Bk
