/-
  A region that draws its order: soundness.
-/
import Derived.Test.YtglfcaioapdiaaaAwDraw
namespace Go.Proofs.Ytglfcaioapdiaaa.Aw
open Go Go.RowKit

theorem selT_false {L : Nat → Bool} : ∀ (ps : List PO) (k : Nat) (T : Tp), (∀ j, j < ps.length → L (k + j) = false) → selT L k ps T = T
  | [], _, _, _ => rfl
  | p :: ps, k, T, h => by
    have h0 := h 0 (by simp)
    rw [Nat.add_zero] at h0
    simp only [selT, h0]
    exact selT_false ps (k + 1) T (fun j hj => by have := h (j + 1) (by simpa using hj); rw [show k + 1 + j = k + (j + 1) by omega]; exact this)
theorem selH_false {L : Nat → Bool} : ∀ (ps : List PO) (k : Nat) (H : Hp), (∀ j, j < ps.length → L (k + j) = false) → selH L k ps H = H
  | [], _, _, _ => rfl
  | p :: ps, k, H, h => by
    have h0 := h 0 (by simp)
    rw [Nat.add_zero] at h0
    simp only [selH, h0]
    exact selH_false ps (k + 1) H (fun j hj => by have := h (j + 1) (by simpa using hj); rw [show k + 1 + j = k + (j + 1) by omega]; exact this)
theorem selT_take {L : Nat → Bool} {i : Nat} (ps : List PO) (T : Tp) (t : Nat) (h : ∀ j p, ps[j]? = some p → p.dst = some t → L j = decide (j < i)) :
    look (selT L 0 ps T) t = look (selT (fun _ => true) 0 (ps.take i) T) t := by
  have e : selT (fun j => decide (j < i)) 0 ps T = selT (fun j => decide (j < i)) 0 (ps.take i) T := by
    have := selT_app (fun j => decide (j < i)) (ps.take i) (ps.drop i) 0 T
    rw [List.take_append_drop] at this
    rw [this]
    refine selT_false _ _ _ fun j hj => ?_
    simp only [List.length_drop] at hj
    simp [List.length_take]
    omega
  rw [selT_congr ps 0 T T rfl (L' := fun j => decide (j < i)) (fun j p hp hd => by rw [Nat.zero_add]; exact h j p hp hd), e]
  refine selT_congr _ 0 T T rfl fun j p hp _ => ?_
  have : j < (ps.take i).length := (List.getElem?_eq_some_iff.1 hp).1
  simp only [List.length_take] at this
  simp
  omega
theorem selH_take {L : Nat → Bool} {i : Nat} (ps : List PO) (H : Hp) (hL : ∀ j, L j = true → j < i) : selH L 0 ps H = selH L 0 (ps.take i) H := by
  have := selH_app L (ps.take i) (ps.drop i) 0 H
  rw [List.take_append_drop] at this
  rw [this]
  refine selH_false _ _ _ fun j hj => ?_
  simp only [List.length_drop] at hj
  cases hl : L (0 + (List.take i ps).length + j) with
  | false => rfl
  | true =>
    have := hL _ hl
    simp only [List.length_take] at this
    omega
theorem selH_ins {L L' : Nat → Bool} {i id : Nat} {q : PO} : ∀ (ps : List PO) (k : Nat) (H H' : Hp), look H id = look H' id → k ≤ i → ps[i - k]? = some q → L i = false → L' i = true → (∀ j, j ≠ i → L' j = L j) → (∀ j p, ps[j]? = some p → i < k + j → L (k + j) = true → lkE p.E id = none) →
    look (selH L' k ps H) id = (lkE q.E id).getD (look (selH L k ps H') id)
  | [], k, H, H', _, _, hq, _, _, _, _ => by simp at hq
  | p :: ps, k, H, H', h, hk, hq, h1, h2, h3, h4 => by
    simp only [selH]
    by_cases hki : k = i
    · subst hki
      simp only [Nat.sub_self, List.getElem?_cons_zero, Option.some.injEq] at hq
      subst hq
      rw [h1, h2]
      have rest : ∀ j r, ps[j]? = some r → L (k + 1 + j) = true → lkE r.E id = none := fun j r hr hl => h4 (j + 1) r (by simpa using hr) (by omega) (by rw [show k + (j + 1) = k + 1 + j by omega]; exact hl)
      have a1 : look (selH L' (k + 1) ps (ovr p.E H)) id = look (ovr p.E H) id := by
        rw [selH_congr ps (k + 1) _ (ovr p.E H) rfl (L' := fun _ => false) (fun j r hr hm => by
          rw [h3 (k + 1 + j) (by omega)]
          cases hl : L (k + 1 + j) with
          | false => rfl
          | true => exact absurd (rest j r hr hl) hm), selH_false]
        exact fun _ _ => rfl
      have a2 : look (selH L (k + 1) ps H') id = look (selH L (k + 1) ps H') id := rfl
      cases he : lkE p.E id with
      | some ob => rw [a1, look_ovr, he]; rfl
      | none =>
        rw [Option.getD_none]
        refine selH_congr ps (k + 1) _ _ (by rw [look_ovr, he]; exact h) fun j r _ _ => ?_
        exact h3 _ (by omega)
    · have hlt : k < i := by omega
      rw [h3 k hki]
      refine selH_ins ps (k + 1) _ _ ?_ (by omega) (by rw [show i - k = (i - (k + 1)) + 1 by omega] at hq; simpa using hq) h1 h2 h3 (fun j r hr hij hl => ?_)
      · cases L k
        · exact h
        · rw [look_ovr, look_ovr, h]
      · exact h4 (j + 1) r (by simpa using hr) (by omega) (by rw [show k + (j + 1) = k + 1 + j by omega]; exact hl)

/-- new blocks beside all that is there -/
theorem Rel.frame {Old : Nat → Prop} {wi : WI} {K : Nat → Prop} {m m' : Nat → Loc} {S : Nat → Prop} {H Hd U : Hp} {w w' : World} {lo hi : Nat} {v : AV} {r : Value} (hr : Rel Old wi K m S H w) (hS : ∀ i, lo ≤ i → i < hi → ¬ S i)
    (hU : ∀ i b, look U i = some b → lo ≤ i ∧ i < hi) {K' : Nat → Prop} (ha : Aft Old wi K m S w lo v (U ++ Hd) hi true r w' m' K') : Rel Old wi K' m' (addS S lo hi) (U ++ H) w' := by
  obtain ⟨hb, hnew, hkn⟩ := ha.fr rfl
  have hS' : ∀ i, S i → m' i = m i := fun i hi' => ha.ag i (fun hc => hS i hc.1 hc.2 hi')
  have part : ∀ i b, look (U ++ H) i = some b → look U i = some b ∨ (look U i = none ∧ look H i = some b) := fun i b hl => by
    rw [look_append] at hl
    cases hu : look U i with
    | some b' => rw [hu] at hl; simp at hl; exact .inl (by rw [hl])
    | none => rw [hu] at hl; simp at hl; exact .inr ⟨rfl, hl⟩
  have big : ∀ i b, look U i = some b → look (U ++ Hd) i = some b := fun i b hu => by rw [look_append, hu]; rfl
  refine { os := ha.rel.os, tape := ha.rel.tape, output := ha.rel.output, size := ha.rel.size, old := ha.rel.old, olt := ha.rel.olt, oown := ?_, om := ?_, kb := ha.rel.kb, pin := ha.rel.pin, pinS := ha.rel.pinS, inS := ?_, own := ?_, inj := ?_ }
  · intro i b hl
    rcases part i b hl with hu | ⟨_, hh⟩
    · exact ha.rel.oown i b (big i b hu)
    · rw [hS' i (hr.inS i b hh)]; exact hr.oown i b hh
  · intro i b hl
    rcases part i b hl with hu | ⟨_, hh⟩
    · exact ha.rel.om i b (big i b hu)
    · rw [hS' i (hr.inS i b hh)]; exact fun hp hq => ⟨(hr.om i b hh hp hq).1, ha.gk.1 _ (hr.om i b hh hp hq).2.1, (hr.om i b hh hp hq).2.2⟩
  · intro i b hl
    rcases part i b hl with hu | ⟨_, hh⟩
    · exact .inr (hU i b hu)
    · exact .inl (hr.inS i b hh)
  · intro i b hl
    rcases part i b hl with hu | ⟨_, hh⟩
    · exact ha.rel.own i b (big i b hu)
    · exact (hr.own i b hh).mono2 ha.gk.1 (fun hp hk => hkn _ hk ((hr.own i b hh).br hp).lt_size) ha.kk (fun _ h => hb.block _ h.lt_size) (fun i hi => .inl hi) hS' (hr.inS i b hh)
  · intro i j bi bj hi' hj' hne
    rcases part i bi hi' with hui | ⟨_, hhi⟩ <;> rcases part j bj hj' with huj | ⟨_, hhj⟩
    · exact ha.rel.inj i j bi bj (big i bi hui) (big j bj huj) hne
    · intro hp
      have h1 := hnew i (hU i bi hui).1 (hU i bi hui).2 hp
      rw [hS' j (hr.inS j bj hhj)]
      intro hp'
      have := ((hr.own j bj hhj).br hp').lt_size
      omega
    · rw [hS' i (hr.inS i bi hhi)]
      intro hp' hp
      have h1 := hnew j (hU j bj huj).1 (hU j bj huj).2 hp
      have := ((hr.own i bi hhi).br hp').lt_size
      omega
    · rw [hS' i (hr.inS i bi hhi), hS' j (hr.inS j bj hhj)]
      exact hr.inj i j bi bj hhi hhj hne

/-- a write, beside blocks that it does not know of -/
theorem Step.framed {P : Program} {o : Oper} {N : Nat} {T : Tp} {Hd H' : Hp} {lo hi : Nat} {v : AV} {E : List (Nat × Option Blk)} (hst : Step P o N T Hd lo v H' hi false) (hH' : ∀ i, look H' i = look (ovr E Hd) i)
    {Old : Nat → Prop} {wi : WI} {K : Nat → Prop} {m : Nat → Loc} {S : Nat → Prop} {H : Hp} {a : Act} {w : World} (hr : Rel Old wi K m S H w) (hsub : ∀ i b, look Hd i = some b → look H i = some b) (hS : ∀ i, lo ≤ i → i < hi → ¬ S i) (ht : TRel K w m S N T a)
    (hx : ∀ i, look H i = look Hd i ∨ (look Hd i = none ∧ lkE E i = none)) (next : Act → World → Prop) (Q : Exit → Act → World → Prop)
    (hn : ∀ r w' m' K', (∀ i, ¬ (lo ≤ i ∧ i < hi) → m' i = m i) → GK Old K K' → Rel Old wi K' m' (addS S lo hi) (ovr E H) w' → VR K' w' m' (addS S lo hi) v r → (∀ k, K k → w'.heap[k]? = w.heap[k]?) → next (a.put o.dst r) w') : o.wp P a w next Q := by
  have hrd : Rel Old wi K m S Hd w := hr.sub hsub
  obtain ⟨Old', hO⟩ : ∃ Old' : Nat → Prop, ∀ k, Old' k ↔ (k < w.heap.size ∧ (∀ i b, look Hd i = some b → (m i).ph = false → (m i).blk ≠ k) ∧ ∀ i b, look Hd i = some b → (m i).ph = true → (m i).cap = 1 → (m i).blk ≠ k) := ⟨_, fun _ => Iff.rfl⟩
  have hOO : ∀ k, Old k → Old' k := fun k hk => (hO k).2 ⟨hr.olt k hk, fun i b hl hp e => hrd.oown i b hl hp (e ▸ hk), fun i b hl hp hq e => (hrd.om i b hl hp hq).2.2 (e ▸ hk)⟩
  have hr0 : Rel Old' ⟨w, fun _ => none⟩ K m S Hd w :=
    { os := rfl, tape := rfl, output := rfl, size := Nat.le_refl _, old := fun _ _ => rfl, olt := fun k hk => ((hO k).1 hk).1, oown := fun i b hl hp ho => ((hO _).1 ho).2.1 i b hl hp rfl, om := fun i b hl hp hq => ⟨(hrd.om i b hl hp hq).1, (hrd.om i b hl hp hq).2.1, fun ho => ((hO _).1 ho).2.2 i b hl hp hq rfl⟩, kb := hrd.kb, inS := hrd.inS, pin := fun _ _ h => (by cases h), pinS := fun _ _ h => (by cases h), own := hrd.own, inj := hrd.inj }
  refine hst.2 Old' ⟨w, fun _ => none⟩ K m S a w hS hr0 ht next Q fun r w' m' K' ha => ?_
  have hSm : ∀ i, S i → m' i = m i := fun i hi' => ha.ag i (fun hc => hS i hc.1 hc.2 hi')
  have gk : GK Old K K' := ⟨ha.gk.1, fun k hk ho => ha.gk.2 k hk (hOO k ho)⟩
  -- a block that is there beside
  have side : ∀ i b, look (ovr E H) i = some b → look H' i = some b ∨ (look H i = some b ∧ look Hd i = none) := fun i b hl => by
    rw [look_ovr] at hl
    rw [hH', look_ovr]
    cases he : lkE E i with
    | some ob => rw [he] at hl; exact .inl hl
    | none =>
      rw [he] at hl
      simp only [Option.getD_none] at hl ⊢
      rcases hx i with h | ⟨h, _⟩
      · left; rw [← h]; exact hl
      · exact .inr ⟨hl, h⟩
  have sideOld : ∀ i b, look H i = some b → look Hd i = none → (m i).ph = false → Old' (m i).blk := fun i b hl hd hp =>
    (hO _).2 ⟨((hr.own i b hl).br hp).lt_size, fun j c hj hpj => hr.inj j i c b (hsub j c hj) hl (fun e => by subst e; rw [hd] at hj; cases hj) hpj hp, fun j c hj hpj hq e => ((hr.own i b hl).br hp).nk (e ▸ (hrd.om j c hj hpj hq).2.1)⟩
  refine hn r w' m' K' ha.ag gk ?_ ha.vr ha.kk
  refine { os := ha.rel.os.trans hr.os, tape := ha.rel.tape.trans hr.tape, output := ha.rel.output.trans hr.output, size := Nat.le_trans hr.size ha.rel.size, old := fun k hk => (ha.rel.old k (hOO k hk)).trans (hr.old k hk), olt := fun k hk => ha.rel.olt k (hOO k hk), oown := ?_, om := ?_, kb := ha.rel.kb, inS := ?_,
           pin := fun i l hp => (hSm i (hr.pinS i l hp)).trans (hr.pin i l hp), pinS := fun i l hp => .inl (hr.pinS i l hp), own := ?_, inj := ?_ }
  · intro i b hl
    rcases side i b hl with h | ⟨h, hd⟩
    · exact fun hp ho => ha.rel.oown i b h hp (hOO _ ho)
    · rw [hSm i (hr.inS i b h)]; exact hr.oown i b h
  · intro i b hl
    rcases side i b hl with h | ⟨h, hd⟩
    · exact fun hp hq => ⟨(ha.rel.om i b h hp hq).1, (ha.rel.om i b h hp hq).2.1, fun ho => (ha.rel.om i b h hp hq).2.2 (hOO _ ho)⟩
    · rw [hSm i (hr.inS i b h)]; exact fun hp hq => ⟨(hr.om i b h hp hq).1, ha.gk.1 _ (hr.om i b h hp hq).2.1, (hr.om i b h hp hq).2.2⟩
  · intro i b hl
    rcases side i b hl with h | ⟨h, hd⟩
    · exact ha.rel.inS i b h
    · exact .inl (hr.inS i b h)
  · intro i b hl
    rcases side i b hl with h | ⟨h, hd⟩
    · exact ha.rel.own i b h
    · exact (hr.own i b h).mono2 ha.gk.1 (fun hp hk => ha.gk.2 _ hk (sideOld i b h hd hp)) ha.kk (fun hp _ => ha.rel.old _ (sideOld i b h hd hp)) (fun i hi => .inl hi) hSm (hr.inS i b h)
  · intro i j bi bj hi' hj' hne
    rcases side i bi hi' with h1 | ⟨h1, d1⟩ <;> rcases side j bj hj' with h2 | ⟨h2, d2⟩
    · exact ha.rel.inj i j bi bj h1 h2 hne
    · rw [hSm j (hr.inS j bj h2)]
      exact fun hp hp' e => ha.rel.oown i bi h1 hp (e ▸ sideOld j bj h2 d2 hp')
    · rw [hSm i (hr.inS i bi h1)]
      exact fun hp hp' e => ha.rel.oown j bj h2 hp' (e ▸ sideOld i bi h1 d1 hp)
    · rw [hSm i (hr.inS i bi h1), hSm j (hr.inS j bj h2)]
      exact hr.inj i j bi bj h1 h2 hne

theorem lkE_map : ∀ (U : Hp) (i : Nat), lkE (U.map fun x => (x.1, some x.2)) i = (look U i).map some
  | [], i => rfl
  | (k, b) :: U, i => by
    simp only [List.map_cons, lkE_cons, look_cons]
    split
    · rfl
    · exact lkE_map U i

section
variable {P : Program} {N : Nat} {l : List Oper} {bs ks : List Nat} {T : Tp} {H : Hp} {n : Nat}

theorem chk_at (hc : chkB l bs ks = true) {i : Nat} {o : Oper} (hi : l[i]? = some o) :
    (∀ e ∈ o.after, Region.binds .any e = true → e.on < i) ∧ ∀ j, j < l.length →
      (Nat.testBit (bs.getD i 0) j = true → j < i ∧ (∃ e ∈ o.after, Region.binds .any e = true ∧ (e.on = j ∨ Nat.testBit (bs.getD e.on 0) j = true)) ∧ ∀ k, Nat.testBit (bs.getD j 0) k = true → Nat.testBit (bs.getD i 0) k = true) ∧
      (i ≠ j → ordB bs i j = false → ∀ o', l[j]? = some o' → ∀ d, o'.dst = some d → d ∉ o.looksAt l.toArray ∧ o.dst ≠ some d) ∧
      (i ≠ j → ordB bs i j = false → ks.getD i 0 = 2 → ks.getD j 0 = 0 ∨ ks.getD j 0 = 3) := by
  unfold chkB at hc
  simp only [Bool.and_eq_true, List.all_eq_true] at hc
  obtain ⟨_, h⟩ := hc
  have hlt : i < l.length := (List.getElem?_eq_some_iff.1 hi).1
  have h1 := h i (List.mem_range.2 hlt)
  rw [hi] at h1
  simp only [Bool.and_eq_true, List.all_eq_true] at h1
  obtain ⟨ha, hb⟩ := h1
  refine ⟨fun e he hbn => ?_, fun j hj => ?_⟩
  · have := Array.all_eq_true_iff_forall_mem.1 ha e he
    rw [hbn] at this
    simpa [Nat.blt_eq] using this
  · have hjj := hb j (List.mem_range.2 hj)
    obtain ⟨⟨g1, g2⟩, g3⟩ := hjj
    refine ⟨fun ht => ?_, fun hne ho o' ho' d hd => ?_, fun hne ho h2 => ?_⟩
    · rw [ht] at g1
      simp only [Bool.not_true, Bool.false_or, Bool.and_eq_true, Nat.blt_eq] at g1
      obtain ⟨⟨p1, p2⟩, p3⟩ := g1
      refine ⟨p1, ?_, fun k hk => ?_⟩
      · obtain ⟨e, he, hh⟩ := Array.any_eq_true'.1 p2
        simp only [Bool.and_eq_true, Bool.or_eq_true] at hh
        refine ⟨e, he, hh.1, ?_⟩
        rcases hh.2 with q | q
        · exact .inl (Nat.eq_of_beq_eq_true q)
        · exact .inr q
      · have := Nat.eq_of_beq_eq_true p3
        rw [← this, Nat.testBit_or, hk, Bool.or_true]
    · have hne' : Nat.beq i j = false := by
        cases hb : Nat.beq i j
        · rfl
        · exact absurd (Nat.eq_of_beq_eq_true hb) hne
      rw [hne', ho, ho'] at g2
      simp only [Bool.false_or, hd, Bool.and_eq_true, bne_iff_ne, ne_eq, Bool.not_eq_true'] at g2
      refine ⟨fun hm => ?_, g2.2⟩
      have : (o.looksAt l.toArray).contains d = true := by simpa using hm
      rw [this] at g2
      simp at g2
    · have hne' : Nat.beq i j = false := by
        cases hb : Nat.beq i j
        · rfl
        · exact absurd (Nat.eq_of_beq_eq_true hb) hne
      have h2' : Nat.beq (ks.getD i 0) 2 = true := by rw [h2]; rfl
      rw [hne', ho, h2'] at g3
      simpa using g3

/-- all that was asked to come before has come -/
def ClosedL (l : List Oper) (L : Nat → Bool) : Prop := ∀ (i : Nat) (o : Oper), l[i]? = some o → L i = true → ∀ e ∈ o.after, Region.binds .any e = true → L e.on = true
theorem bef_in (hc : chkB l bs ks = true) {L : Nat → Bool} (hL : ClosedL l L) : ∀ (i : Nat) (o : Oper), l[i]? = some o → (∀ e ∈ o.after, Region.binds .any e = true → L e.on = true) → ∀ j, j < l.length → Nat.testBit (bs.getD i 0) j = true → L j = true := by
  intro i
  induction i using Nat.strongRecOn with
  | _ i ih =>
    intro o hi he j hj ht
    obtain ⟨h0, h1⟩ := chk_at hc hi
    obtain ⟨⟨_, ⟨e, he', hbn, hor⟩, _⟩, _⟩ := (fun h => ⟨(h1 j hj).1 h, trivial⟩ : Nat.testBit (bs.getD i 0) j = true → _ ∧ True) ht
    have hLe := he e he' hbn
    rcases hor with rfl | hor
    · exact hLe
    · have hlt := h0 e he' hbn
      have hlen : e.on < l.length := by have := (List.getElem?_eq_some_iff.1 hi).1; omega
      exact ih e.on hlt _ (List.getElem?_eq_getElem hlen) (hL e.on _ (List.getElem?_eq_getElem hlen) hLe) j hj hor

end
end Go.Proofs.Ytglfcaioapdiaaa.Aw
