/-
  A region that draws its order: the rule, whole.
-/
import Derived.Test.YtglfcaioapdiaaaAwDraw3
namespace Go.Proofs.Ytglfcaioapdiaaa.Aw
open Go Go.RowKit

section
variable {P : Program} {N : Nat} {l : List Oper} {bs ks : List Nat} {T : Tp} {H : Hp} {n n' : Nat} {ps : List PO} {Old : Nat → Prop} {wi : WI} {K : Nat → Prop}

def InvD (N : Nat) (T : Tp) (H : Hp) (n : Nat) (ps : List PO) (Old : Nat → Prop) (wi : WI) (K : Nat → Prop) (L : Nat → Bool) (a : Act) (w : World) : Prop :=
  ∃ m K', GK Old K K' ∧ Rel Old wi K' m (SL n ps L) (selH L 0 ps H) w ∧ TRel K' w m (SL n ps L) N (selT L 0 ps T) a

/-- one operation, whenever it comes up -/
theorem Plan.op (h : Plan P N l bs ks T H n n' ps) {L L' : Nat → Bool} (hL : ClosedL l L) {i : Nat} {o : Oper} (hi : l[i]? = some o) (hLi : L i = false) (hre : ∀ e ∈ o.after, Region.binds .any e = true → L e.on = true)
    (h1 : L' i = true) (h2 : ∀ j, j ≠ i → L' j = L j) {a : Act} {w : World} (hI : InvD N T H n ps Old wi K L a w) (Q : Exit → Act → World → Prop) (next : Act → World → Prop)
    (hn : ∀ a' w', InvD N T H n ps Old wi K L' a' w' → next a' w') : wpOp P l.toArray Q i next a w := by
  have hil : i < l.length := (List.getElem?_eq_some_iff.1 hi).1
  obtain ⟨p, hp, hdst, hdok, hf⟩ := h.fact i o hi
  obtain ⟨m, K1, g1, hr, ht⟩ := hI
  have hrng := h.rng i p hp
  -- the temporaries looked at
  have htI : TRel K1 w m (SL n ps L) N (resT (o.looksAt l.toArray) (selT (fun _ => true) 0 (ps.take i) T)) a := by
    refine ⟨ht.dn, ht.sz, fun t v hl => ?_⟩
    obtain ⟨hm, hlt⟩ := look_resT hl
    refine ht.tm t v ?_
    rw [h.tmp hL hi hLi hre i (.inl rfl) (L' := L) (by simp [hLi]) (fun _ _ => rfl) (.inl ⟨rfl, hm⟩)]
    exact hlt
  have hfresh : ∀ x, p.lo ≤ x → x < p.hi → ¬ SL n ps L x := by
    rintro x hx1 hx2 (hx | ⟨j, q, hq, hLj, q1, q2⟩)
    · omega
    · have := h.disj hp hq hx1 hx2 q1 q2
      subst this
      rw [hLi] at hLj
      cases hLj
  have hS : SL n ps L' = addS (SL n ps L) p.lo p.hi := by
    funext x
    refine propext ⟨?_, ?_⟩
    · rintro (hx | ⟨j, q, hq, hLj, q1, q2⟩)
      · exact .inl (.inl hx)
      · by_cases hj : j = i
        · subst hj
          rw [hp] at hq
          simp only [Option.some.injEq] at hq
          subst hq
          exact .inr ⟨q1, q2⟩
        · rw [h2 j hj] at hLj
          exact .inl (.inr ⟨j, q, hq, hLj, q1, q2⟩)
    · rintro ((hx | ⟨j, q, hq, hLj, q1, q2⟩) | hx)
      · exact .inl hx
      · refine .inr ⟨j, q, hq, ?_, q1, q2⟩
        by_cases hj : j = i
        · subst hj; exact h1
        · rw [h2 j hj]; exact hLj
      · exact .inr ⟨i, p, hp, h1, hx.1, hx.2⟩
  have hnext := h.next hL hi hLi hp h1 h2
  -- the temporaries behind it
  have hTn : ∀ t v, look (selT L' 0 ps T) t = some v → (o.dst = some t ∧ v = p.v) ∨ (o.dst ≠ some t ∧ look (selT L 0 ps T) t = some v) := by
    intro t v hl
    by_cases hd : o.dst = some t
    · left
      refine ⟨hd, ?_⟩
      rw [h.tmp hL hi hLi hre (i + 1) (.inr rfl) (L' := L') (by simp [h1]) h2 (.inr ⟨rfl, hd⟩)] at hl
      have e : ps.take (i + 1) = ps.take i ++ [p] := by rw [List.take_add_one, hp]; rfl
      rw [e, selT_app] at hl
      simp only [selT, look_put] at hl
      rw [if_pos (by rw [hdst]; exact hd)] at hl
      simpa using hl.symm
    · right
      refine ⟨hd, ?_⟩
      rw [← hl]
      refine selT_congr ps 0 T T rfl fun j q hq hqd => ?_
      rw [Nat.zero_add]
      by_cases hj : j = i
      · subst hj
        rw [hp] at hq
        simp only [Option.some.injEq] at hq
        subst hq
        rw [hdst] at hqd
        exact absurd hqd hd
      · exact (h2 j hj).symm
  have hTput : ∀ (m' : Nat → Loc) (w' : World) (r : Value) (K2 : Nat → Prop), (∀ k, K1 k → K2 k) → (∀ k, K1 k → w'.heap[k]? = w.heap[k]?) → (∀ x, SL n ps L x → m' x = m x) → VR K2 w' m' (SL n ps L') p.v r → TRel K2 w' m' (SL n ps L') N (selT L' 0 ps T) (a.put o.dst r) := by
    intro m' w' r K2 hKK hk hm hv
    have hmono := ht.mono hKK hk (S' := SL n ps L') (fun x hx => by rw [hS]; exact .inl hx) hm
    have hput := hmono.put hv hdok
    refine ⟨hput.dn, hput.sz, fun t v hl => hput.tm t v ?_⟩
    rw [look_put]
    rcases hTn t v hl with ⟨hd, rfl⟩ | ⟨hd, hl'⟩
    · rw [if_pos hd]
    · rw [if_neg hd]; exact hl'
  unfold wpOp
  have hio : l.toArray[i]? = some o := by simpa using hi
  rw [hio]
  dsimp only
  rcases hf with ⟨j, b, t, y, hg, hj, htn, hl, hb, hv, hE, hlh⟩ | ⟨hwant, hk⟩
  · -- not wanted
    have hy := yielded_no htI hj hl hb
    rw [if_neg (by rw [Region.wanted, hg]; simp only [hy]; decide)]
    refine hn _ _ ⟨m, K1, g1, ?_, ?_⟩
    · have hSe : SL n ps L' = SL n ps L := by rw [hS, hlh]; funext x; exact propext ⟨fun hx => hx.elim id (fun hx => by omega), .inl⟩
      rw [hSe]
      refine hr.sub fun id b hb => ?_
      rw [hnext id, hE] at hb
      exact hb
    · refine hTput m w undef K1 (fun _ h => h) (fun _ _ => rfl) (fun _ _ => rfl) ?_
      rw [hv]
      exact .v _ _
  · have hwt : Region.wanted o (yielded l.toArray a.tmps) = true := by
      rcases hwant with hg | ⟨j, b, t, hg, hj, htn, hl⟩
      · simp [Region.wanted, hg]
      · have hy := yielded_of htI hj hl htn
        simp [Region.wanted, hg, hy]
    rw [if_pos hwt]
    refine .inl ?_
    rcases hk with ⟨hk0, hE, hlh, hst⟩ | ⟨hk1, U, hE, hU, hst⟩ | ⟨hk3, U, hE, hU, hst⟩ | ⟨hk2, H', hH', hin, hst⟩
    · -- the heap does not matter
      have hSe : SL n ps L' = SL n ps L := by rw [hS, hlh]; funext x; exact propext ⟨fun hx => hx.elim id (fun hx => by omega), .inl⟩
      have hC : SameAt l.toArray ks H i (selH L 0 ps H) := fun id hid => h.keepR L i id hid fun j hj htb => by
        cases hLj : L j with
        | false => rfl
        | true =>
          have hjl : j < l.length := by simpa using hj
          have := bef_in h.chk hL j _ (List.getElem?_eq_getElem hjl) (hL j _ (List.getElem?_eq_getElem hjl) hLj) i hil htb
          rw [hLi] at this
          cases this
      refine (hst (selH L 0 ps H) 0 hC).2 Old wi K1 m (SL n ps L) a w (fun x h1 h2 => by omega) hr htI next Q fun r w' m' K2 ha => ?_
      have e0 : addS (SL n ps L) 0 0 = SL n ps L := by funext x; exact propext ⟨fun hx => hx.elim id (fun hx => by omega), .inl⟩
      have hrel := ha.rel
      have hvr := ha.vr
      rw [e0] at hrel hvr
      refine hn _ _ ⟨m', K2, g1.trans ha.gk, ?_, hTput m' w' r K2 ha.gk.1 ha.kk (fun x _ => ha.ag x (by omega)) (by rw [hSe]; exact hvr)⟩
      rw [hSe]
      refine hrel.sub fun id b hb => ?_
      rw [hnext id, hE] at hb
      exact hb
    · -- it reads, and makes new blocks
      have hsub : Rel Old wi K1 m (SL n ps L) (selH (depM bs ks i) 0 (ps.take i) H) w := hr.sub fun id b hb => h.incl hL hi hLi hre (by omega) hb
      refine hst.2 Old wi K1 m (SL n ps L) a w hfresh hsub htI next Q fun r w' m' K2 ha => ?_
      have hfr := hr.frame hfresh hU ha
      refine hn _ _ ⟨m', K2, g1.trans ha.gk, ?_, hTput m' w' r K2 ha.gk.1 ha.kk (fun x hx => ha.ag x (fun hc => hfresh x hc.1 hc.2 hx)) (by rw [hS]; exact ha.vr)⟩
      rw [hS]
      refine hfr.sub fun id b hb => ?_
      rw [hnext id, hE, lkE_map] at hb
      rw [look_append]
      cases hu : look U id with
      | none => rw [hu] at hb; exact hb
      | some b' => rw [hu] at hb; exact hb
    · -- it makes new blocks, whatever is there
      have hsub : Rel Old wi K1 m (SL n ps L) [] w := hr.sub fun id b hb => by simp [look_nil] at hb
      refine hst.2 Old wi K1 m (SL n ps L) a w hfresh hsub htI next Q fun r w' m' K2 ha => ?_
      have hfr := hr.frame hfresh hU (Hd := []) (by rw [List.append_nil]; exact ha)
      refine hn _ _ ⟨m', K2, g1.trans ha.gk, ?_, hTput m' w' r K2 ha.gk.1 ha.kk (fun x hx => ha.ag x (fun hc => hfresh x hc.1 hc.2 hx)) (by rw [hS]; exact ha.vr)⟩
      rw [hS]
      refine hfr.sub fun id b hb => ?_
      rw [hnext id, hE, lkE_map] at hb
      rw [look_append]
      cases hu : look U id with
      | none => rw [hu] at hb; exact hb
      | some b' => rw [hu] at hb; exact hb
    · -- it writes
      refine hst.framed hH' hr (fun id b hb => h.incl hL hi hLi hre (by omega) hb) hfresh htI (fun id => h.incl2 hL hi hLi hre hk2 hp id) next Q fun r w' m' K2 hag hgk hrel hvr hkk => ?_
      refine hn _ _ ⟨m', K2, g1.trans hgk, ?_, hTput m' w' r K2 hgk.1 hkk (fun x hx => hag x (fun hc => hfresh x hc.1 hc.2 hx)) (by rw [hS]; exact hvr)⟩
      rw [hS]
      refine hrel.sub fun id b hb => ?_
      rw [hnext id] at hb
      rw [look_ovr]
      exact hb

theorem readyMem {i : Nat} {listed : Array Bool} (hi : i ∈ Region.ready .any l.toArray listed) : listed.getD i true = false ∧ ∃ o, l[i]? = some o ∧ ∀ e ∈ o.after, Region.binds .any e = true → listed.getD e.on true = true := by
  rw [mem_ready] at hi
  obtain ⟨h0, o, ho, he⟩ := hi
  refine ⟨h0, o, by simpa using ho, fun e hm hb => ?_⟩
  have := he e hm hb
  rcases Nat.lt_or_ge e.on listed.size with hlt | hge
  · simpa [Array.getD, hlt] using this
  · simp [Array.getD, Nat.not_lt.2 hge]

theorem Plan.any (h : Plan P N l bs ks T H n n' ps) (Q : Exit → Act → World → Prop) (hq : ∀ a w, InvD N T H n ps Old wi K (fun _ => true) a w → Q .normal a w) :
    ∀ (fuel : Nat) (listed : Array Bool) (a : Act) (w : World), listed.size = l.length → ClosedL l (fun j => listed.getD j true) → ((List.range l.length).filter fun j => !listed.getD j true).length = fuel → InvD N T H n ps Old wi K (fun j => listed.getD j true) a w →
      wpAny P .any l.toArray Q fuel listed a w := by
  intro fuel
  have done : ∀ (listed : Array Bool) (a : Act) (w : World), listed.size = l.length → Region.ready .any l.toArray listed = [] → InvD N T H n ps Old wi K (fun j => listed.getD j true) a w → Q .normal a w := by
    intro listed a w hsz hre hI
    have all : ∀ j, listed.getD j true = true := by
      intro j
      induction j using Nat.strongRecOn with
      | _ j ih =>
        cases hj : listed.getD j true with
        | true => rfl
        | false =>
          exfalso
          have hlt : j < listed.size := by
            rcases Nat.lt_or_ge j listed.size with hlt | hge
            · exact hlt
            · simp [Array.getD, Nat.not_lt.2 hge] at hj
          have hjl : j < l.length := by omega
          have : j ∈ Region.ready .any l.toArray listed := by
            rw [mem_ready]
            refine ⟨hj, l[j], by simp [hjl], fun e he hb => ?_⟩
            have hon := (chk_at h.chk (List.getElem?_eq_getElem hjl)).1 e he hb
            have h1 := ih e.on hon
            have hon' : e.on < listed.size := by omega
            simpa [Array.getD, hon'] using h1
          rw [hre] at this
          cases this
    refine hq a w ?_
    have : (fun j => listed.getD j true) = fun _ => true := funext all
    rwa [this] at hI
  induction fuel with
  | zero =>
    intro listed a w hsz hcl hf hI
    have hre : Region.ready .any l.toArray listed = [] := by
      cases hr : Region.ready .any l.toArray listed with
      | nil => rfl
      | cons i rs =>
        have hi : i ∈ Region.ready .any l.toArray listed := by rw [hr]; exact List.mem_cons_self
        obtain ⟨h0, o, ho, _⟩ := readyMem hi
        have hil : i < l.length := (List.getElem?_eq_some_iff.1 ho).1
        have : i ∈ (List.range l.length).filter fun j => !listed.getD j true := by simp only [List.mem_filter, List.mem_range]; exact ⟨hil, by rw [h0]; rfl⟩
        rw [List.length_eq_zero_iff.1 hf] at this
        cases this
    exact ⟨hre, done listed a w hsz hre hI⟩
  | succ fuel ih =>
    intro listed a w hsz hcl hf hI
    refine ⟨fun hre => done listed a w hsz hre hI, fun i hi => ?_⟩
    obtain ⟨h0, o, ho, hre⟩ := readyMem hi
    have hil : i < l.length := (List.getElem?_eq_some_iff.1 ho).1
    have e1 : (listed.setIfInBounds i true).getD i true = true := by simp [Array.getD, hsz, hil]
    have e2 : ∀ j, j ≠ i → (listed.setIfInBounds i true).getD j true = listed.getD j true := fun j hj => getD_set_ne true (fun e => hj e.symm)
    refine h.op hcl ho h0 hre (L' := fun j => (listed.setIfInBounds i true).getD j true) e1 e2 hI Q _ fun a' w' hI' => ?_
    refine ih _ a' w' (by simp [hsz]) ?_ ?_ hI'
    · intro j o' hj hLj e he hb
      have mono : ∀ x, listed.getD x true = true → (listed.setIfInBounds i true).getD x true = true := fun x hx => by
        by_cases hxi : x = i
        · subst hxi; exact e1
        · rw [e2 x hxi]; exact hx
      by_cases hji : j = i
      · subst hji
        rw [ho] at hj
        simp only [Option.some.injEq] at hj
        subst hj
        exact mono _ (hre e he hb)
      · refine mono _ (hcl j o' hj ?_ e he hb)
        have : (listed.setIfInBounds i true).getD j true = true := hLj
        rw [e2 j hji] at this
        exact this
    · have hnd : (List.range l.length).Nodup := List.nodup_range
      have key : ((List.range l.length).filter fun j => !(listed.setIfInBounds i true).getD j true) = ((List.range l.length).filter fun j => !listed.getD j true).filter (fun j => !(j == i)) := by
        rw [List.filter_filter]
        refine List.filter_congr fun j _ => ?_
        by_cases hj : j = i
        · subst hj; simp [e1]
        · simp [e2 j hj, hj]
      rw [key]
      have hm : i ∈ (List.range l.length).filter fun j => !listed.getD j true := by simp only [List.mem_filter, List.mem_range]; exact ⟨hil, by rw [h0]; rfl⟩
      have hnd2 : ((List.range l.length).filter fun j => !listed.getD j true).Nodup := hnd.filter _
      have := hnd2.erase_eq_filter i
      have hlen := List.length_erase_of_mem hm
      rw [this] at hlen
      have heq : ((List.range l.length).filter fun j => !listed.getD j true).filter (fun j => !(j == i)) = ((List.range l.length).filter fun j => !listed.getD j true).filter (fun x => x != i) := rfl
      rw [heq, hlen, hf]
      rfl

theorem aw_draw {id g : Nat} {Q : Exit → Tp → Hp → Nat → Prop} (bs ks : List Nat) (hm : P.follows .mixedOrders = true) (hc : chkB l bs ks = true) (h : DR P N l.toArray bs ks H (fun T H n => Q .normal T H n) 0 [] l T n) : AW P N g (.region id l.toArray true) Q T H n := by
  intro Old wi K m a w _ hr ht
  obtain ⟨ps, n', g1, g2, g3, g4, g5, g6, g7⟩ := DR.all T l [] T n rfl h
  have plan : Plan P N l bs ks T H n n' ps := ⟨hc, g1, g4, g5, g6, fun j o ho => by have := g7 j o ho; simpa using this, by simpa using g3.2, hr.inS⟩
  refine wp_region_any hm ?_
  have hr' : Rel Old wi K m (fun i => i < n) H { w with drawn := w.drawn + 1 } := hr.drw (w.drawn + 1)
  have ht' : TRel K { w with drawn := w.drawn + 1 } m (fun i => i < n) N T a := ht.mono (fun _ h => h) (fun _ _ => rfl) (fun _ h => h) (fun _ _ => rfl)
  have hgf : ∀ j, j < l.length → (Array.replicate l.toArray.size false).getD j true = false := fun j hj => by
    simp [Array.getD, hj]
  refine plan.any (Old := Old) (wi := wi) (K := K) _ (fun a' w' hI => ?_) l.toArray.size _ a _ (by simp) ?_ ?_ ⟨m, K, GK.refl _ _, ?_, ?_⟩
  · obtain ⟨m', K', g, r1, t1⟩ := hI
    have hS : SL n ps (fun _ => true) = fun i => i < n' := by
      funext x
      refine propext ⟨?_, fun hx => ?_⟩
      · rintro (hx | ⟨j, p, hp, _, p1, p2⟩)
        · omega
        · have := g4 j p hp; omega
      · by_cases hx2 : x < n
        · exact .inl hx2
        · obtain ⟨j, p, hp, p1, p2⟩ := g6 x (by omega) hx
          exact .inr ⟨j, p, hp, rfl, p1, p2⟩
    rw [hS] at r1 t1
    exact ⟨_, _, n', m', K', g, g3.1, r1, t1⟩
  · intro i o hi hLi
    have hil : i < l.length := (List.getElem?_eq_some_iff.1 hi).1
    have := hgf i hil
    exact absurd hLi (by simp only; rw [this]; simp)
  · have : (List.range l.length).filter (fun j => !(Array.replicate l.toArray.size false).getD j true) = List.range l.length := by
      refine List.filter_eq_self.2 fun j hj => ?_
      rw [hgf j (List.mem_range.1 hj)]
      rfl
    rw [this]
    simp
  · have hS : SL n ps (fun j => (Array.replicate l.toArray.size false).getD j true) = fun i => i < n := by
      funext x
      refine propext ⟨?_, .inl⟩
      rintro (hx | ⟨j, p, hp, hL, _⟩)
      · exact hx
      · have hjl : j < l.length := by rw [← g1]; exact (List.getElem?_eq_some_iff.1 hp).1
        have hL' : (Array.replicate l.toArray.size false).getD j true = true := hL
        rw [hgf j hjl] at hL'
        cases hL'
    rw [hS, selH_false ps 0 H (fun j hj => by rw [Nat.zero_add]; exact hgf j (by omega))]
    exact hr'
  · have hS : SL n ps (fun j => (Array.replicate l.toArray.size false).getD j true) = fun i => i < n := by
      funext x
      refine propext ⟨?_, .inl⟩
      rintro (hx | ⟨j, p, hp, hL, _⟩)
      · exact hx
      · have hjl : j < l.length := by rw [← g1]; exact (List.getElem?_eq_some_iff.1 hp).1
        have hL' : (Array.replicate l.toArray.size false).getD j true = true := hL
        rw [hgf j hjl] at hL'
        cases hL'
    rw [hS, selT_false ps 0 T (fun j hj => by rw [Nat.zero_add]; exact hgf j (by omega))]
    exact ht'
end
end Go.Proofs.Ytglfcaioapdiaaa.Aw
