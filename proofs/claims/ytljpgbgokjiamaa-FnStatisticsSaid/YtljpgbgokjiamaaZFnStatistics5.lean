/-
  What the law FnStatistics rests on, part 5.
-/
import Derived.Test.YtljpgbgokjiamaaZFnStatistics4
namespace Go.Proofs.Ytljpgbgokjiamaa.St
open Go Go.RowKit Go.Proofs.Ytljpgbgokjiamaa.Aw Go.Proofs.Ytljpgbgokjiamaa.In Go.Proofs.Ytljpgbgokjiamaa.Il Go.Proofs.Ytljpgbgokjiamaa.Sr Go.Proofs.Ytljpgbgokjiamaa.Nb
set_option linter.unusedSimpArgs false
set_option linter.unusedVariables false
theorem subH_of {H : Hp} {ρ : Nat → Nat} {n : Nat} : ∀ (U : Hp), (∀ p ∈ U, Aw.look H (ρ p.1) = some (renB ρ p.2) ∧ idsOkB n p.2 = true ∧ p.1 < n) → subH H ρ n U
  | [], _ => trivial
  | p :: U, h => by
    obtain ⟨h1, h2, h3⟩ := h p List.mem_cons_self
    exact ⟨⟨h1, h2, by rw [Nat.blt_eq]; exact h3⟩, subH_of U fun q hq => h q (List.mem_cons_of_mem _ hq)⟩
theorem nstM : ∀ (bs : List Blk) (base : Nat) (p : Nat × Blk), p ∈ nst base bs → ∃ j, bs[j]? = some p.2 ∧ p.1 = base + j
  | [], _, p, h => by simp [nst] at h
  | b :: bs, base, p, h => by
    rw [nst] at h
    rcases List.mem_cons.1 h with rfl | h
    · exact ⟨0, rfl, rfl⟩
    · obtain ⟨j, h1, h2⟩ := nstM bs (base + 1) p h
      exact ⟨j + 1, by simpa using h1, by omega⟩
theorem sub_pre {g n' base : Nat} {T T' : Tp} {H : Hp} {ρ : Nat → Nat} (pre : Hp) {bs : List Blk} (ht : subT T ρ n' T')
    (hp : ∀ p ∈ pre, Aw.look H (ρ p.1) = some (renB ρ p.2) ∧ idsOkB n' p.2 = true ∧ p.1 < n') (hn : ∀ (j : Nat) (c : Blk), bs[j]? = some c → Aw.look H (ρ (base + j)) = some c ∧ c.pl = true) (hb : base + bs.length ≤ n')
    (hi : ∀ a c, (a ∈ pre.map (·.1) ∨ base ≤ a ∧ a < base + bs.length) → (c ∈ pre.map (·.1) ∨ base ≤ c ∧ c < base + bs.length) → ρ a = ρ c → a = c) (hpin : PinOk g ρ n') :
    Sub g T H ρ T' (pre ++ nst base bs) n' := by
  refine ⟨ht, subH_of _ fun p hm => ?_, injB_of fun a ha c hc => hi a c ?_ ?_, hpin⟩
  · rcases List.mem_append.1 hm with h | h
    · exact hp p h
    · obtain ⟨j, hj, e⟩ := nstM bs base p h
      have := nlt hj
      obtain ⟨h1, h2⟩ := hn j _ hj
      obtain ⟨a, ty, sz, pl, rows⟩ := p
      dsimp only at e h1 h2 hj ⊢
      subst e h2
      exact ⟨h1, rfl, by omega⟩
  · rw [List.map_append, nst_keys] at ha
    rcases List.mem_append.1 ha with h | h
    · exact .inl h
    · exact .inr (List.mem_range'_1.1 h)
  · rw [List.map_append, nst_keys] at hc
    rcases List.mem_append.1 hc with h | h
    · exact .inl h
    · exact .inr (List.mem_range'_1.1 h)
theorem sub_pid {g n' base : Nat} {T T' : Tp} {H : Hp} (pre : Hp) {bs : List Blk} (ht : subT T id n' T')
    (hp : ∀ p ∈ pre, Aw.look H p.1 = some (renB id p.2) ∧ idsOkB n' p.2 = true ∧ p.1 < n') (hn : ∀ (j : Nat) (c : Blk), bs[j]? = some c → Aw.look H (base + j) = some c ∧ c.pl = true) (hb : base + bs.length ≤ n') (hpin : PinOk g id n') :
    Sub g T H id T' (pre ++ nst base bs) n' := sub_pre pre ht hp hn hb (fun a c _ _ e => e) hpin
theorem outR_id (ns : List Nat) (base : Nat) : (outR base ns).map (renL id) = outR base ns := outR_ren ns base base fun j _ => rfl
theorem outR_mv {lens : List Nat} {base i X n : Nat} (hi : i < lens.length) (hX : base + lens.length ≤ X) : (outR base (lens.set i n)).map (renL (mv (base + i) X)) = (outR base lens).set i [.sl X 0 n] := by
  apply List.ext_getElem?
  intro j
  rw [List.getElem?_map, outR_get, List.getElem?_set, List.getElem?_set, outR_get, outR_len]
  by_cases e : i = j
  · subst e
    rw [if_pos rfl, if_pos rfl, if_pos hi, if_pos hi]
    simp [renL, renA, mv]
  · rw [if_neg e, if_neg e]
    cases lens[j]? with
    | none => rfl
    | some m =>
      simp only [Option.map_some, renL, renA, mv]
      rw [if_neg (by omega)]
theorem sub_row {g n' base i X : Nat} {T T' : Tp} {H : Hp} (pre : Hp) {ls : List (List Int)} {l : List Int} (ht : subT T (mv (base + i) X) n' T') (hi : i < ls.length)
    (hp : ∀ p ∈ pre, Aw.look H p.1 = some (renB (mv (base + i) X) p.2) ∧ idsOkB n' p.2 = true ∧ p.1 < base) (hX : Aw.look H X = some ⟨2, 1, true, l.map inL⟩)
    (hn : ∀ (j : Nat) (c : Blk), (niT ls)[j]? = some c → j ≠ i → Aw.look H (base + j) = some c) (hb : base + ls.length ≤ X) (hXn : base + ls.length ≤ n') (hpin : PinOk g (mv (base + i) X) n') :
    Sub g T H (mv (base + i) X) T' (pre ++ nst base (niT (ls.set i l))) n' := by
  have hl : (niT (ls.set i l)).length = ls.length := by rw [niT_len, List.length_set]
  refine sub_pre pre ht (fun p hm => ?_) (fun j c hc => ?_) (by omega) (fun a c ha hc e => ?_) hpin
  · obtain ⟨h1, h2, h3⟩ := hp p hm
    rw [show mv (base + i) X p.1 = p.1 from if_neg (by omega)]
    exact ⟨h1, h2, by omega⟩
  · have hj := nlt hc
    rw [hl] at hj
    by_cases e : j = i
    · subst e
      obtain ⟨_, rfl⟩ := niT_get hc
      rw [show mv (base + j) X (base + j) = X from if_pos rfl, hX, List.getElem_set_self]
      exact ⟨rfl, rfl⟩
    · rw [show mv (base + i) X (base + j) = base + j from if_neg (by omega)]
      have hc2 : (niT ls)[j]? = some c := by
        unfold niT at hc ⊢
        rw [List.getElem?_map, List.getElem?_set_ne (fun h => e h.symm), ← List.getElem?_map] at hc
        exact hc
      refine ⟨hn j c hc2 e, ?_⟩
      obtain ⟨_, rfl⟩ := niT_get hc2; rfl
  · rw [hl] at ha hc
    have hb2 : ∀ a, (a ∈ pre.map (·.1) ∨ base ≤ a ∧ a < base + ls.length) → a < base + ls.length := fun a h => by
      rcases h with h | h
      · obtain ⟨p, h1, rfl⟩ := List.mem_map.1 h
        have := (hp p h1).2.2
        omega
      · exact h.2
    have h1 := hb2 a ha
    have h2 := hb2 c hc
    unfold mv at e
    split at e <;> split at e <;> omega
theorem NstIn.del {base i : Nat} {bs : List Blk} {H : Hp} (h : i < base ∨ base + bs.length ≤ i) (hn : NstIn H base bs) : NstIn (Aw.del H i) base bs := fun j c hc => by
  have := nlt hc
  rw [look_del_ne _ (by omega)]; exact hn j c hc
theorem aw_cutK {P : Program} {N g n : Nat} {Q : Exit → Tp → Hp → Nat → Prop} {T : Tp} {H : Hp} {x y : Code} {K : Tp → Hp → Nat → Prop} (hK : ∀ T H n, AW P N g y Q T H n → K T H n) (T' : Tp) (H' : Hp) (n' : Nat) (h1 : AW P N g x (Thn (fun T H _ => ∃ ρ, Sub g T H ρ T' H' n') Q) T H n) (h2 : AW P N g y Q T' H' n') : AW P N g x (Thn K Q) T H n := by
  refine h1.mono fun e T1 H1 n1 hq => ?_
  cases e with
  | normal =>
    obtain ⟨ρ, hs⟩ := hq
    exact hK _ _ _ (aw_weak hs h2)
  | _ => exact hq
end Go.Proofs.Ytljpgbgokjiamaa.St

namespace Go.Proofs.Ytljpgbgokjiamaa.St
open Go Go.RowKit Go.Proofs.Ytljpgbgokjiamaa.Aw Go.Proofs.Ytljpgbgokjiamaa.In Go.Proofs.Ytljpgbgokjiamaa.Il Go.Proofs.Ytljpgbgokjiamaa.Sr Go.Proofs.Ytljpgbgokjiamaa.Nb
set_option linter.unusedSimpArgs false
set_option linter.unusedVariables false
attribute [local irreducible] AW SQ Step RO RC DE Thn InB
theorem selN_succ (p : Nat → Bool) (j : Nat) : selN p (j + 1) = if p j = true then selN p j ++ [(j : Int)] else selN p j := by
  unfold selN
  rw [List.range_succ, List.filter_append, List.map_append]
  by_cases h : p j = true
  · rw [if_pos h, List.filter_cons, if_pos h]; rfl
  · rw [if_neg h, List.filter_cons, if_neg h]; simp
theorem selN_len (p : Nat → Bool) (j : Nat) : (selN p j).length ≤ j := by
  unfold selN
  rw [List.length_map]
  have := List.length_filter_le p (List.range j)
  rw [List.length_range] at this
  exact this
def whL (p : Nat → Nat → Bool) (N i j : Nat) : List (List Int) := (List.range N).map fun a => if a < i then selN (p a) N else if a = i then selN (p i) j else []
theorem whL_len (p : Nat → Nat → Bool) (N i j : Nat) : (whL p N i j).length = N := by rw [whL, List.length_map, List.length_range]
theorem whL_at {p : Nat → Nat → Bool} {N i j a : Nat} (h : a < N) : (whL p N i j)[a]? = some (if a < i then selN (p a) N else if a = i then selN (p i) j else []) := by
  rw [whL, List.getElem?_map, List.getElem?_range h]; rfl
theorem whL_row {p : Nat → Nat → Bool} {N i j : Nat} (h : i < N) : (whL p N i j)[i]? = some (selN (p i) j) := by
  rw [whL_at h, if_neg (by omega), if_pos rfl]
theorem whL_ext {ls ms : List (List Int)} {N : Nat} (h1 : ls.length = N) (h2 : ms.length = N) (h : ∀ a, a < N → ls[a]? = ms[a]?) : ls = ms := by
  apply List.ext_getElem?
  intro a
  by_cases ha : a < N
  · exact h a ha
  · rw [List.getElem?_eq_none (by omega), List.getElem?_eq_none (by omega)]
theorem whL_zero (p : Nat → Nat → Bool) (N : Nat) : whL p N 0 0 = List.replicate N [] := by
  refine whL_ext (whL_len _ _ _ _) List.length_replicate fun a ha => ?_
  rw [whL_at ha, List.getElem?_replicate, if_pos ha, if_neg (by omega)]
  split <;> rfl
theorem whL_next (p : Nat → Nat → Bool) (N i : Nat) : whL p N i N = whL p N (i + 1) 0 := by
  refine whL_ext (whL_len _ _ _ _) (whL_len _ _ _ _) fun a ha => ?_
  rw [whL_at ha, whL_at ha]
  by_cases h1 : a < i
  · rw [if_pos h1, if_pos (by omega)]
  · by_cases h2 : a = i
    · subst h2
      rw [if_neg h1, if_pos rfl, if_pos (by omega)]
    · rw [if_neg h1, if_neg h2, if_neg (by omega)]
      split <;> rfl
theorem whL_put {p : Nat → Nat → Bool} {N i j : Nat} (h : i < N) (hp : p i j = true) : whL p N i (j + 1) = (whL p N i j).set i (selN (p i) j ++ [(j : Int)]) := by
  refine whL_ext (whL_len _ _ _ _) (by rw [List.length_set, whL_len]) fun a ha => ?_
  rw [List.getElem?_set, whL_at ha, whL_at ha, whL_len]
  by_cases h1 : i = a
  · subst h1
    rw [if_neg (by omega), if_pos rfl, if_pos rfl, if_pos h, selN_succ, if_pos hp]
  · rw [if_neg h1]
    split
    · rfl
    · rw [if_neg (fun e => h1 e.symm), if_neg (fun e => h1 e.symm)]
theorem whL_skip {p : Nat → Nat → Bool} {N i j : Nat} (hp : p i j = false) : whL p N i (j + 1) = whL p N i j := by
  refine whL_ext (whL_len _ _ _ _) (whL_len _ _ _ _) fun a ha => ?_
  rw [whL_at ha, whL_at ha, selN_succ, if_neg (show ¬ (p i j = true) by rw [hp]; decide)]
theorem sub_n0 {g n' : Nat} {T T' : Tp} {H : Hp} {ls : List (List Int)} (ht : subT T id n' T') (h0 : Aw.look H 0 = some ⟨24, 1, false, outR 1 (ls.map List.length)⟩) (hn : NstIn H 1 (niT ls)) (hb : 1 + ls.length ≤ n') (hp : PinOk g id n') :
    Sub g T H id T' ((0, ⟨24, 1, false, outR 1 (ls.map List.length)⟩) :: nst 1 (niT ls)) n' := by
  refine sub_pid [(0, _)] ht (fun q hq => ?_) (fun j c hc => ?_) (by rw [niT_len]; exact hb) hp
  · rw [List.mem_singleton] at hq
    subst hq
    refine ⟨?_, outR_ids _ _ (by rw [List.length_map]; exact hb), by show 0 < n'; omega⟩
    unfold renB
    dsimp only
    rw [outR_id]; exact h0
  · obtain ⟨hj, e⟩ := niT_get hc
    exact ⟨hn j c hc, by rw [e]⟩
theorem sub_n1 {g n' i : Nat} {T T' : Tp} {H : Hp} {ls : List (List Int)} {l : List Int} (X : Nat) (ht : subT T (mv (1 + i) X) n' T') (hi : i < ls.length) (h0 : Aw.look H 0 = some ⟨24, 1, false, (outR 1 (ls.map List.length)).set i [.sl X 0 l.length]⟩)
    (hX : Aw.look H X = some ⟨2, 1, true, l.map inL⟩) (hn : ∀ (j : Nat) (c : Blk), (niT ls)[j]? = some c → j ≠ i → Aw.look H (1 + j) = some c) (hb : 1 + ls.length ≤ X) (hXn : 1 + ls.length ≤ n') (hp : PinOk g (mv (1 + i) X) n') :
    Sub g T H (mv (1 + i) X) T' ((0, ⟨24, 1, false, outR 1 ((ls.set i l).map List.length)⟩) :: nst 1 (niT (ls.set i l))) n' := by
  refine sub_row [(0, _)] ht hi (fun q hq => ?_) hX hn hb hXn hp
  rw [List.mem_singleton] at hq
  subst hq
  refine ⟨?_, outR_ids _ _ (by rw [List.length_map, List.length_set]; omega), by show 0 < 1; omega⟩
  unfold renB
  dsimp only
  rw [List.map_set, outR_mv (by rw [List.length_map]; exact hi) (by rw [List.length_map]; exact hb)]; exact h0
theorem app_sub {a X Y w : Nat} {B0 B1 B2 : Blk} {H : Hp} (h1 : a ≠ w) (h2 : X ≠ w) (h3 : a ≠ Y) (h4 : a ≠ X) (h5 : X ≠ Y) : ∀ z b, Aw.look ((a, B0) :: (Y, B1) :: (X, B2) :: Aw.del H w) z = some b → Aw.look ((Y, B1) :: Aw.del ((X, B2) :: (a, B0) :: H) w) z = some b := fun z b h => by
  rw [look_cons] at h ⊢
  by_cases e1 : a = z
  · subst e1
    rw [if_pos rfl] at h
    rw [if_neg (fun e => h3 e.symm), look_del_ne _ h1, look_cons, if_neg (fun e => h4 e.symm), look_cons, if_pos rfl]; exact h
  rw [if_neg e1, look_cons] at h
  by_cases e2 : Y = z
  · rw [if_pos e2] at h ⊢; exact h
  rw [if_neg e2, look_cons] at h
  rw [if_neg e2]
  by_cases e3 : X = z
  · subst e3
    rw [if_pos rfl] at h
    rw [look_del_ne _ h2, look_cons, if_pos rfl]; exact h
  rw [if_neg e3] at h
  by_cases e4 : z = w
  · subst e4; rw [look_del_same] at h; cases h
  · rw [look_del_ne _ e4] at h ⊢
    rw [look_cons, if_neg e3, look_cons, if_neg e1]; exact h
set_option maxHeartbeats 4000000 in
theorem itemsWhere_ro (n : Nat) (f : FuncId) (caps : List AV) (p : Nat → Nat → Bool) (hno : noOwnL caps = true) (hcap : idsOkL 1000 caps = true) (hz : FzC caps) (hn : n ≤ 24)
    (hf : ∀ i j : Nat, i < n → j < n → ∀ m, RO Try.prog f (.v (.int .i64 i) :: .v (.int .i64 j) :: caps) m (.v (.bool (p i j))) [] m) (k : Nat) :
    RO Try.prog 37 [.v (.int .i64 n), .fn f caps] k (.sl k 0 n) ((k, niB k (whL p n n 0)) :: nst (k + 1) (niT (whL p n n 0))) (k + 1000) := by
  have hll := whL_len p n n 0
  refine RO.wide (n' := k + ((whL p n n 0).length + 1)) (RO.ofm (.sl 0 0 n) ((0, niB 0 (whL p n n 0)) :: nst 1 (niT (whL p n n 0))) ((whL p n n 0).length + 1) Try.func37 Try.ntmps37 rfl (goFn_of Try.func37 rfl (by kernel_rfl)) rfl rfl (by simp [renA]) (shH_ni k _) (full_ni _) ?_) (by omega)
  ((repeat' (first
    | (show SQ _ _ _ _ _ _ _ _; first | apply sq_nil | (apply q_move; exact rfl; exact rfl) | (apply q_assign; exact rfl; exact rfl) | (apply q_lenl; exact rfl; exact rfl; exact (ty rfl); exact rfl))
    | (show SQ _ _ _ _ _ _ _ _; (first | (apply q_mks; exact rfl; exact rfl; exact rfl; exact (ty rfl); exact rfl; exact (by first | omega | (simp; done) | (simp; omega)); exact (by first | omega | (simp; done) | (simp; omega)); exact (by first | omega | (simp; done) | (simp; omega)); exact (by first | omega | (simp; done) | (simp; omega)); exact rfl; exact rfl)); (try simp only [put, rowsOf, plR, List.all_cons, selE, ovr, setH, del, cellsA, splice, isV, List.nil_append, List.cons_append, List.map_cons, List.map_nil, List.length_cons, List.length_nil, List.set_cons_zero, List.set_cons_succ, List.take_succ_cons, List.take_zero, List.take_nil, List.drop_succ_cons, List.drop_zero, List.drop_nil, List.append_nil, List.all_cons, List.all_nil, Bool.and_true, Bool.true_and, Bool.and_false, Bool.false_and, Nat.reduceAdd, Nat.zero_add, Nat.add_zero, Nat.reduceEqDiff, if_true, if_false, reduceIte]))
    | (show AW _ _ _ _ _ _ _ _; first | refine aw_region ?_ | (refine aw_seqk ?_; intro K hK) | refine aw_block ?_)
    | refine thn_n ?_
    | (refine hK _ _ _ ?_; clear hK K))); all_goals (repeat (clear hK K)))
  refine aw_unpl 0 rfl ?_
  refine aw_nils 0 1 n 2 (by omega) n 0 _ (by omega) rfl (fun j b hb => by simp at hb) fun H' e1 e2 e3 => ?_
  refine aw_loop (ρ := id) (ι := Nat) (fun i => ([(12, .v (.int .i64 (i : Int))), (11, .v (.int .i64 (n : Int))), (5, .sl 0 0 n), (1, .fn f caps), (0, .v (.int .i64 (n : Int)))], [(0, ⟨24, 1, false, outR 1 ((whL p n i 0).map List.length)⟩)] ++ nst 1 (niT (whL p n i 0)), 1000))
    (fun i => i ≤ n) (fun i => n - i) 0 (Nat.zero_le _) ?_ ?_
  · refine sub_pid _ ⟨lk_i rfl rfl, lk_i rfl rfl, lk_s rfl rfl rfl rfl, lk_f rfl (renL_id caps) hcap, lk_i rfl rfl, trivial⟩ (fun q hq => ?_) (fun j c hc => ?_) (by rw [niT_len, whL_len]; show 1 + n ≤ 1000; omega) pin_0
    · simp at hq
      subst hq
      refine ⟨?_, outR_ids _ _ (by rw [List.length_map, whL_len]; show 1 + n ≤ 1000; omega), by show 0 < 1000; omega⟩
      dsimp only
      rw [e1]
      unfold renB
      dsimp only
      rw [outR_id, whL_zero, nlR, Nat.sub_self, List.replicate_zero, List.append_nil, List.map_replicate]; rfl
    · rw [whL_zero] at hc
      obtain ⟨hj, rfl⟩ := niT_get hc
      rw [List.length_replicate] at hj
      refine ⟨?_, rfl⟩
      rw [e2 j ⟨2, 1, true, []⟩ (by rw [List.getElem?_replicate, if_pos hj]), List.getElem_replicate]; rfl
  intro i hi
  dsimp only [List.cons_append, List.nil_append]
  by_cases c1 : i < n
  · have b1 : decide ((i : Int) < (n : Int)) = true := by simpa using c1
    have hw : IntKind.i64.wrap ((i : Int) + 1) = ((i + 1 : Nat) : Int) := by rw [IntWalk.i64_in _ (by omega)]; omega
    ((repeat' (first
    | (show SQ _ _ _ _ _ _ _ _; first | apply sq_nil | (apply q_move; exact rfl; exact rfl) | (apply q_assign; exact rfl; exact rfl) | (apply q_lss; exact rfl; exact rfl; exact rfl))
    | (show AW _ _ _ _ _ _ _ _; first | refine aw_region ?_ | (refine aw_seqk ?_; intro K hK) | refine aw_block ?_ | (apply aw_cond_t; exact rfl; exact (by assumption)) | refine aw_skip ?_)
    | refine thn_n ?_
    | (refine hK _ _ _ ?_; clear hK K))); all_goals (repeat (clear hK K)))
    refine aw_loop (ρ := id) (ι := Nat) (fun j => ([(16, .v (.int .i64 (j : Int))), (15, .v (.int .i64 (n : Int))), (6, .v (.int .i64 (i : Int))), (12, .v (.int .i64 (i : Int))), (11, .v (.int .i64 (n : Int))), (5, .sl 0 0 n), (1, .fn f caps), (0, .v (.int .i64 (n : Int)))], [(0, ⟨24, 1, false, outR 1 ((whL p n i j).map List.length)⟩)] ++ nst 1 (niT (whL p n i j)), 1000))
      (fun j => j ≤ n) (fun j => n - j) 0 (Nat.zero_le _) ?_ ?_
    · exact sub_n0 ⟨lk_i rfl rfl, lk_i rfl rfl, lk_i rfl rfl, lk_i rfl rfl, lk_i rfl rfl, lk_s rfl rfl rfl rfl, lk_f rfl (renL_id caps) hcap, lk_i rfl rfl, trivial⟩ rfl (.cons (by omega) .here') (by rw [whL_len]; show 1 + n ≤ 1000; omega) pin_0
    intro j hj
    dsimp only [List.cons_append, List.nil_append]
    by_cases c2 : j < n
    · have b2 : decide ((j : Int) < (n : Int)) = true := by simpa using c2
      have hwj : IntKind.i64.wrap ((j : Int) + 1) = ((j + 1 : Nat) : Int) := by rw [IntWalk.i64_in _ (by omega)]; omega
      have hC := hf i j c1 c2
      cases hp : p i j with
      | false =>
        rw [hp] at hC
        ((repeat' (first
    | (show SQ _ _ _ _ _ _ _ _; first | apply sq_nil | (apply q_move; exact rfl; exact rfl) | (apply q_assign; exact rfl; exact rfl) | (apply q_add; exact rfl; exact rfl; exact rfl) | (apply q_lss; exact rfl; exact rfl; exact rfl))
    | (show SQ _ _ _ _ _ _ _ _; (first | (apply q_callU; exact rfl; exact rfl; exact rfl; rotate_left; exact hC _; rotate_right; focus ((repeat' (first | exact FzL.nil | exact (by assumption : FzC _) _ | refine FzL.cons ?_ ?_ | exact Fz.of rfl | exact Fz.nil | exact Fz.emp | (apply Fz.fnC; assumption) | (apply Fz.sl2; exact rfl; exact (by first | omega | (simp; done) | (simp; omega)); first | exact rfl | exact dt_full (by first | omega | (simp; done) | (simp; omega)) | assumption) | apply Fz.agg | (apply Fz.ptrL; exact rfl; first | exact rfl | assumption) | apply Fz.fnL)); done))); (try simp only [put, rowsOf, plR, List.all_cons, selE, ovr, setH, del, cellsA, splice, isV, List.nil_append, List.cons_append, List.map_cons, List.map_nil, List.length_cons, List.length_nil, List.set_cons_zero, List.set_cons_succ, List.take_succ_cons, List.take_zero, List.take_nil, List.drop_succ_cons, List.drop_zero, List.drop_nil, List.append_nil, List.all_cons, List.all_nil, Bool.and_true, Bool.true_and, Bool.and_false, Bool.false_and, Nat.reduceAdd, Nat.zero_add, Nat.add_zero, Nat.reduceEqDiff, if_true, if_false, reduceIte]))
    | (show AW _ _ _ _ _ _ _ _; first | refine aw_region ?_ | (refine aw_seqk ?_; intro K hK) | refine aw_block ?_ | (apply aw_cond_f; exact rfl; exact rfl) | (apply aw_cond_t; exact rfl; exact (by assumption)) | refine aw_skip ?_)
    | refine thn_n ?_
    | (refine hK _ _ _ ?_; clear hK K)
    | refine inb_n ?_)); all_goals (repeat (clear hK K)))
        refine ⟨j + 1, id, c2, by omega, ?_⟩
        (try dsimp only)
        rw [whL_skip hp]
        exact sub_n0 ⟨lk_i rfl hwj, lk_i rfl rfl, lk_i rfl rfl, lk_i rfl rfl, lk_i rfl rfl, lk_s rfl rfl rfl rfl, lk_f rfl (renL_id caps) hcap, lk_i rfl rfl, trivial⟩ rfl (.cons (by omega) .here') (by rw [whL_len]; show 1 + n ≤ 1000; omega) pin_0
      | true =>
        rw [hp] at hC
        have hll2 := whL_len p n i j
        have hrow := whL_row (p := p) (j := j) c1
        have hput := whL_put c1 hp
        have hsl := selN_len (p i) j
        generalize whL p n i j = ls at *
        generalize selN (p i) j = l at *
        have hor : (outR 1 (ls.map List.length))[0 + ((i : Int)).toNat]? = some [.sl (1 + i) 0 l.length] := by
          rw [Nat.zero_add, Int.toNat_natCast, outR_get, List.getElem?_map, hrow]; rfl
        have hbi : Aw.look ((0, ⟨24, 1, false, outR 1 (ls.map List.length)⟩) :: nst 1 (niT ls)) (1 + i) = some ⟨2, 1, true, l.map inL⟩ := by
          rw [look_cons, if_neg (by omega), look_nst_at, niT, List.getElem?_map, hrow]; rfl
        have hml : (l.map inL).length = l.length := List.length_map _
        have hol : (outR 1 (ls.map List.length)).length = n := by rw [outR_len, List.length_map, hll2]
        ((repeat' (first
    | (show SQ _ _ _ _ _ _ _ _; first | apply sq_nil | (apply q_move; exact rfl; exact rfl) | (apply q_assign; exact rfl; exact rfl) | (apply q_lss; exact rfl; exact rfl; exact rfl) | (apply q_ixl; exact rfl; exact rfl; exact rfl; exact (ty rfl); exact rfl; exact rfl; exact rfl; exact (by first | omega | (simp; done) | (simp; omega)); exact (by first | omega | (simp; done) | (simp; omega))) | (apply q_ld1p; exact rfl; exact rfl; exact (ty rfl); exact rfl; exact rfl; exact (by first | rfl | assumption | ((try simp only [Nat.zero_add]); refine List.getElem?_set_self ?_; (try simp only [List.length_set]); assumption)); exact rfl))
    | (show SQ _ _ _ _ _ _ _ _; (first | (apply q_buildn; exact rfl; exact (ty rfl); exact rfl; exact rfl; exact rfl; exact rfl; exact rfl; exact rfl; exact rfl) | (apply q_callU; exact rfl; exact rfl; exact rfl; rotate_left; exact hC _; rotate_right; focus ((repeat' (first | exact FzL.nil | exact (by assumption : FzC _) _ | refine FzL.cons ?_ ?_ | exact Fz.of rfl | exact Fz.nil | exact Fz.emp | (apply Fz.fnC; assumption) | (apply Fz.sl2; exact rfl; exact (by first | omega | (simp; done) | (simp; omega)); first | exact rfl | exact dt_full (by first | omega | (simp; done) | (simp; omega)) | assumption) | apply Fz.agg | (apply Fz.ptrL; exact rfl; first | exact rfl | assumption) | apply Fz.fnL)); done))); (try simp only [put, rowsOf, plR, List.all_cons, selE, ovr, setH, del, cellsA, splice, isV, List.nil_append, List.cons_append, List.map_cons, List.map_nil, List.length_cons, List.length_nil, List.set_cons_zero, List.set_cons_succ, List.take_succ_cons, List.take_zero, List.take_nil, List.drop_succ_cons, List.drop_zero, List.drop_nil, List.append_nil, List.all_cons, List.all_nil, Bool.and_true, Bool.true_and, Bool.and_false, Bool.false_and, Nat.reduceAdd, Nat.zero_add, Nat.add_zero, Nat.reduceEqDiff, if_true, if_false, reduceIte]))
    | (show AW _ _ _ _ _ _ _ _; first | refine aw_region ?_ | (refine aw_seqk ?_; intro K hK) | refine aw_block ?_ | (apply aw_cond_t; exact rfl; exact rfl) | (apply aw_cond_t; exact rfl; exact (by assumption)) | refine aw_skip ?_)
    | refine thn_n ?_
    | (refine hK _ _ _ ?_; clear hK K))); all_goals (repeat (clear hK K)))
        refine q_apo_s (pl0 := true) (br := l.map inL) (ba := l.map inL) (rows := [[.v (.int .i64 (j : Int))]]) rfl rfl rfl (ty rfl) rfl (by rw [look_cons, if_neg (by omega)]; exact hbi) (by omega) (List.take_of_length_le (by omega)) (ty rfl) rfl rfl (by show 0 + 1 ≤ 1; omega) rfl rfl (by show 8 * (2 * (l.length + 1)) ≤ _; omega) (by show l.length + 1 ≤ _; omega) rfl ?_
        refine sq_sub (app_sub (by omega) (by omega) (by omega) (by omega) (by omega)) ?_
        ((repeat' (first
    | (show SQ _ _ _ _ _ _ _ _; first | apply sq_nil | (apply q_move; exact rfl; exact rfl) | (apply q_add; exact rfl; exact rfl; exact rfl) | (apply q_ixl; exact rfl; exact rfl; exact rfl; exact (ty rfl); exact rfl; exact rfl; exact rfl; exact (by first | omega | (simp; done) | (simp; omega)); exact (by first | omega | (simp; done) | (simp; omega))))
    | (show SQ _ _ _ _ _ _ _ _; (first | (apply q_store; exact rfl; exact rfl; exact (ty rfl); exact rfl; exact (by first | rfl | assumption | ((try simp only [Nat.zero_add]); refine List.getElem?_set_self ?_; (try simp only [List.length_set]); assumption)); exact rfl; exact rfl; exact rfl)); (try simp only [put, rowsOf, plR, List.all_cons, selE, ovr, setH, del, cellsA, splice, isV, List.nil_append, List.cons_append, List.map_cons, List.map_nil, List.length_cons, List.length_nil, List.set_cons_zero, List.set_cons_succ, List.take_succ_cons, List.take_zero, List.take_nil, List.drop_succ_cons, List.drop_zero, List.drop_nil, List.append_nil, List.all_cons, List.all_nil, Bool.and_true, Bool.true_and, Bool.and_false, Bool.false_and, Nat.reduceAdd, Nat.zero_add, Nat.add_zero, Nat.reduceEqDiff, if_true, if_false, reduceIte]))
    | (show AW _ _ _ _ _ _ _ _; first | refine aw_region ?_)
    | refine thn_n ?_
    | (refine hK _ _ _ ?_; clear hK K)
    | refine inb_n ?_)); all_goals (repeat (clear hK K)))
        refine ⟨j + 1, mv (1 + i) 1001, c2, by omega, ?_⟩
        (try dsimp only)
        rw [hput]
        refine sub_n1 1001 ⟨lk_i rfl hwj, lk_i rfl rfl, lk_i rfl rfl, lk_i rfl rfl, lk_i rfl rfl, lk_s rfl (by rw [mv, if_neg (by omega)]) rfl rfl, lk_f rfl (renL_noOwn _ 0 _ hno).1 hcap, lk_i rfl rfl, trivial⟩ (by omega) ?_ ?_ (fun a c hc hne => ?_) (by omega) (by omega) pin_0
        · rw [List.length_append, List.length_singleton]; rfl
        · rw [List.map_append]; rfl
        · rw [look_cons, if_neg (by omega), look_cons, if_neg (by have := nlt hc; rw [niT_len] at this; omega), look_cons, if_neg (by have := nlt hc; rw [niT_len] at this; omega), look_del_ne _ (by omega), look_del_ne _ (by omega), look_nst_at]
          exact hc
    · have b2 : decide ((j : Int) < (n : Int)) = false := by simpa using c2
      obtain rfl : j = n := by omega
      ((repeat' (first
    | (show SQ _ _ _ _ _ _ _ _; first | apply sq_nil | (apply q_move; exact rfl; exact rfl) | (apply q_add; exact rfl; exact rfl; exact rfl) | (apply q_lss; exact rfl; exact rfl; exact rfl))
    | (show AW _ _ _ _ _ _ _ _; first | refine aw_region ?_ | (refine aw_seqk ?_; intro K hK) | (apply aw_cond_f; exact rfl; exact (by assumption)) | refine aw_exit ?_)
    | refine thn_n ?_
    | (refine hK _ _ _ ?_; clear hK K)
    | refine thn_e ?_
    | refine inb_same ?_
    | refine inb_n ?_
    | (clear hK K; refine hK _ _ _ ?_; clear hK K))); all_goals (repeat (clear hK K)))
      refine ⟨i + 1, id, c1, by omega, ?_⟩
      (try dsimp only)
      rw [whL_next]
      exact sub_n0 ⟨lk_i rfl hw, lk_i rfl rfl, lk_s rfl rfl rfl rfl, lk_f rfl (renL_id caps) hcap, lk_i rfl rfl, trivial⟩ rfl (.cons (by omega) .here') (by rw [whL_len]; show 1 + j ≤ 1000; omega) pin_0
  · have b1 : decide ((i : Int) < (n : Int)) = false := by simpa using c1
    obtain rfl : i = n := by omega
    ((repeat' (first
    | (show SQ _ _ _ _ _ _ _ _; first | apply sq_nil | (apply q_move; exact rfl; exact rfl) | (apply q_assign; exact rfl; exact rfl) | (apply q_lss; exact rfl; exact rfl; exact rfl))
    | (show AW _ _ _ _ _ _ _ _; first | refine aw_region ?_ | (refine aw_seqk ?_; intro K hK) | (apply aw_cond_f; exact rfl; exact (by assumption)) | refine aw_ret ?_ | refine aw_exit ?_)
    | refine thn_n ?_
    | (refine hK _ _ _ ?_; clear hK K)
    | refine thn_e ?_
    | refine inb_same ?_
    | (clear hK K; refine hK _ _ _ ?_; clear hK K))); all_goals (repeat (clear hK K)))
    refine fin_r (fin_ni (X := 0) (B := 1) (.r1 _ _ (.tmp _ _ rfl)) ?_ ?_ rfl rfl (.cons (by omega) .here') (by omega))
    · simp [renA]
    · simp [idsOk, Nat.blt_eq]
end Go.Proofs.Ytljpgbgokjiamaa.St

namespace Go.Proofs.Ytljpgbgokjiamaa.St
open Go Go.RowKit Go.Proofs.Ytljpgbgokjiamaa.Aw Go.Proofs.Ytljpgbgokjiamaa.In Go.Proofs.Ytljpgbgokjiamaa.Il Go.Proofs.Ytljpgbgokjiamaa.Sr Go.Proofs.Ytljpgbgokjiamaa.Nb
set_option linter.unusedSimpArgs false
set_option linter.unusedVariables false
attribute [local irreducible] AW SQ Step RO RC DE Thn InB
def symL (ls : List (List Int)) : List (List Int) := whL (nearB ls) ls.length ls.length 0
theorem symL_len (ls : List (List Int)) : (symL ls).length = ls.length := whL_len _ _ _ _
set_option maxHeartbeats 4000000 in
theorem Symmetric_ro (ls : List (List Int)) (hS : NbS ls) (h : nbB ls = true) (k : Nat) :
    RO Try.prog 16 [.dsl 1 (nbL ls)] k (.tup [.sl k 0 ls.length, .v (.int .i64 0)]) ((k, niB k (symL ls)) :: nst (k + 1) (niT (symL ls))) (k + 1000) := by
  have hV := ValidNeighbours_ro ls hS
  have b1 : (!nbB ls) = false := by rw [h]; rfl
  have hl := nbL_len ls
  have hn24 : ls.length ≤ 24 := by
    simp only [nbB, Bool.and_eq_true, decide_eq_true_eq] at h
    exact h.1
  have hP := itemsWhere_ro ls.length 38 [.dptr [.dsl 1 (nbL ls)]] (nearB ls) rfl rfl (fun H => FzL.of rfl) hn24 fun i j hi hj m => symClo_ro ls hS i j hi hj m
  have hll := symL_len ls
  change ∀ k, RO Try.prog _ _ k _ ((k, niB k (symL ls)) :: nst (k + 1) (niT (symL ls))) (k + 1000) at hP
  generalize symL ls = ps at *
  refine RO.wide (n' := k + (ps.length + 1)) (RO.ofm (.tup [.sl 0 0 ls.length, .v (.int .i64 0)]) ((0, niB 0 ps) :: nst 1 (niT ps)) (ps.length + 1) Try.func16 Try.ntmps16 rfl (goFn_of Try.func16 rfl (by kernel_rfl)) rfl rfl (by simp [renA, renL]) (shH_ni k _) (full_ni _) ?_) (by omega)
  have hP2 : ∀ k, RO Try.prog 37 [.v (.int .i64 ((nbL ls).length : Int)), .fn 38 [.dptr [.dsl 1 (nbL ls)]]] k (.sl k 0 ls.length) ((k, niB k ps) :: nst (k + 1) (niT ps)) (k + 1000) := by rw [hl]; exact hP
  ((repeat' (first
    | (show SQ _ _ _ _ _ _ _ _; apply sq_frzp (t := 1); exact rfl; exact rfl; exact (by first | rfl | exact all_noOwn_map (fun _ => rfl) | assumption | exact hclo); exact (by first | rfl | assumption); exact rfl; (try simp only [put, rowsOf, plR, List.all_cons, selE, ovr, setH, del, cellsA, splice, isV, List.nil_append, List.cons_append, List.map_cons, List.map_nil, List.length_cons, List.length_nil, List.set_cons_zero, List.set_cons_succ, List.take_succ_cons, List.take_zero, List.take_nil, List.drop_succ_cons, List.drop_zero, List.drop_nil, List.append_nil, List.all_cons, List.all_nil, Bool.and_true, Bool.true_and, Bool.and_false, Bool.false_and, Nat.reduceAdd, Nat.zero_add, Nat.add_zero, Nat.reduceEqDiff, if_true, if_false, reduceIte]))
    | (show SQ _ _ _ _ _ _ _ _; first | apply sq_nil | (apply q_assign; exact rfl; exact rfl) | (apply q_not; exact rfl; exact rfl) | (apply q_lend; exact rfl; exact rfl; exact (ty rfl); exact rfl) | (apply q_ld1d; exact rfl; exact rfl; exact (ty rfl); exact rfl; exact rfl) | (apply q_mkf; exact rfl; exact rfl))
    | (show SQ _ _ _ _ _ _ _ _; (first | (apply q_box; exact rfl; exact rfl; exact rfl) | (apply q_callU; exact rfl; exact rfl; exact rfl; exact FzL.of rfl; exact hV _) | (apply q_callU; exact rfl; exact rfl; exact rfl; exact FzL.of rfl; exact hP2 _)); (try simp only [put, rowsOf, plR, List.all_cons, selE, ovr, setH, del, cellsA, splice, isV, List.nil_append, List.cons_append, List.map_cons, List.map_nil, List.length_cons, List.length_nil, List.set_cons_zero, List.set_cons_succ, List.take_succ_cons, List.take_zero, List.take_nil, List.drop_succ_cons, List.drop_zero, List.drop_nil, List.append_nil, List.all_cons, List.all_nil, Bool.and_true, Bool.true_and, Bool.and_false, Bool.false_and, Nat.reduceAdd, Nat.zero_add, Nat.add_zero, Nat.reduceEqDiff, if_true, if_false, reduceIte]))
    | (show AW _ _ _ _ _ _ _ _; first | refine aw_region ?_ | (refine aw_seqk ?_; intro K hK) | (apply aw_cond_f; exact rfl; exact (by assumption)) | refine aw_ret ?_ | refine aw_skip ?_)
    | refine thn_n ?_
    | (refine hK _ _ _ ?_; clear hK K))); all_goals (repeat (clear hK K)))
  refine fin_r (fin_ni (X := 1) (B := 2) (.r2 _ _ _ _ (.tmp _ _ rfl) (.tmp _ _ rfl)) ?_ ?_ rfl rfl ?_ (by omega))
  · simp [renA, renL]
  · simp [idsOk, idsOkL, Nat.blt_eq]
  · exact .cons (by omega) .here'
end Go.Proofs.Ytljpgbgokjiamaa.St

namespace Go.Proofs.Ytljpgbgokjiamaa.St
open Go Go.RowKit Go.Proofs.Ytljpgbgokjiamaa.Aw Go.Proofs.Ytljpgbgokjiamaa.In Go.Proofs.Ytljpgbgokjiamaa.Il Go.Proofs.Ytljpgbgokjiamaa.Sr Go.Proofs.Ytljpgbgokjiamaa.Nb
set_option linter.unusedSimpArgs false
set_option linter.unusedVariables false
attribute [local irreducible] AW SQ Step RO RC DE Thn InB
section
variable {P : Program} {N n n' : Nat} {all : Array Oper} {l : List Oper} {G : Tp → Hp → Nat → Prop} {T : Tp} {H : Hp} {bs ks : List Nat} {i : Nat} {eff : List (Nat × List (Nat × Option Blk))} {ty : TypeId} {pos : String} {after : Array Edge} {d : Nat}
theorem e_build3 {t e : TypeId} {ti : TI} {es eb len : Nat} {ez : List Value} {parts : Array (Nat × Operand)} {ps : List (Nat × AV)} {cs : List AV} (hd : Nat.blt d N = true)  (hty : tiOf P t = some ti) (hk0 : ti.k = .slice e es eb ez) (hz : Nat.beq ez.length es = true) (h0 : Nat.blt 0 (len * es) = true) (hlen : Nat.ble (len * es) 10000 = true) (hm : evalP T parts.toList = some ps) (hc0 : fillA (fun i => some (i * es, es)) (zeros es ez len) ps = some cs) (h1 : cs.all AV.one = true) (hk : ks.getD i 0 = 3) (h : DE P N all bs ks H G (i + 1) ((i, [(n, some ⟨e, es, cs.all isV, rowsOf es len cs⟩)]) :: eff) l ((d, .sl n 0 len) :: T) (n + 1)) : DE P N all bs ks H G i eff (⟨some d, .buildSlice t len parts, ty, pos, after, none⟩ :: l) T n :=
  dr_3 rfl hd hk (s_buildSlice rfl hty hk0 (Nat.eq_of_beq_eq_true hz) (by simpa [Nat.blt_eq] using h0) (by simpa using hlen) (mapP (evalP_m hm) (fun x hx t ht => by simp only [Oper.looksAt, Op.operands, List.append_nil, List.mem_filterMap]; exact ⟨.tmp t, List.mem_map.2 ⟨x, hx, ht⟩, rfl⟩)) hc0 h1) h
theorem e_b31 {t e : TypeId} {ti : TI} {eb : Nat} {z y : Value} {parts : Array (Nat × Operand)} (hd : Nat.blt d N = true)  (hty : tiOf P t = some ti) (hk0 : ti.k = .slice e 1 eb [z]) (hm : evalP T parts.toList = some [(0, .v y)]) (hc0 : fillA (fun i => some (i * 1, 1)) (zeros 1 [z] 1) [(0, .v y)] = some [.v y]) (h1 : AV.one (.v y) = true) (hk : ks.getD i 0 = 3) (h : DE P N all bs ks H G (i + 1) ((i, [(n, some ⟨e, 1, true, [[.v y]]⟩)]) :: eff) l ((d, .sl n 0 1) :: T) (n + 1)) : DE P N all bs ks H G i eff (⟨some d, .buildSlice t 1 parts, ty, pos, after, none⟩ :: l) T n :=
  e_build3 (ps := [(0, .v y)]) (cs := [.v y]) hd hty hk0 rfl rfl rfl hm hc0 (by rw [List.all_cons, h1]; rfl) hk h
end
set_option maxHeartbeats 4000000 in
theorem meetNo_ro (a b : Int) (c : List AV) (h : ¬ (0 ≤ a ∧ 0 ≤ b ∧ a ≠ b)) (k : Nat) : RO Try.prog 34 [.v (.int .i64 a), .v (.int .i64 b), .dptr c] k (.tup []) [] k := by
  by_cases h1 : 0 ≤ a
  · have b1 : decide (0 ≤ a) = true := by simpa using h1
    by_cases h2 : 0 ≤ b
    · have b2 : decide (0 ≤ b) = true := by simpa using h2
      have b3 : (a != b) = false := by simp; omega
      refine RO.ofp Try.func34 Try.ntmps34 rfl (goFn_of Try.func34 rfl (by kernel_rfl)) rfl rfl rfl ?_
      ((repeat' (first
    | (show SQ _ _ _ _ _ _ _ _; first | apply sq_nil | (apply q_move; exact rfl; exact rfl) | (apply q_pick_t; exact rfl; exact rfl; exact rfl; exact (by first | assumption | exact rfl)) | (apply q_neq; exact rfl; exact rfl; exact rfl) | (apply q_geq; exact rfl; exact rfl; exact rfl) | (apply q_g; exact rfl; exact rfl; exact rfl; exact (by assumption)))
    | (show AW _ _ _ _ _ _ _ _; first | refine aw_region ?_ | (refine aw_seqk ?_; intro K hK) | (apply aw_cond_f; exact rfl; exact (by assumption)) | refine aw_skip ?_)
    | refine thn_n ?_
    | (refine hK _ _ _ ?_; clear hK K))); all_goals (repeat (clear hK K)))
      all_goals first | exact fin_n (fin_p .r0 rfl rfl rfl rfl) | exact fin_r (fin_p .r0 rfl rfl rfl rfl)
    · have b2 : decide (0 ≤ b) = false := by simpa using h2
      refine RO.ofp Try.func34 Try.ntmps34 rfl (goFn_of Try.func34 rfl (by kernel_rfl)) rfl rfl rfl ?_
      ((repeat' (first
    | (show SQ _ _ _ _ _ _ _ _; first | apply sq_nil | (apply q_move; exact rfl; exact rfl) | (apply q_pick_t; exact rfl; exact rfl; exact rfl; exact (by first | assumption | exact rfl)) | (apply q_pick_f; exact rfl; exact rfl; exact rfl; exact (by first | assumption | exact rfl)) | (apply q_geq; exact rfl; exact rfl; exact rfl) | (apply q_g; exact rfl; exact rfl; exact rfl; exact (by assumption)) | (apply q_s; exact rfl; exact rfl; exact rfl; exact (by assumption); exact rfl))
    | (show AW _ _ _ _ _ _ _ _; first | refine aw_region ?_ | (refine aw_seqk ?_; intro K hK) | (apply aw_cond_f; exact rfl; exact rfl) | refine aw_skip ?_)
    | refine thn_n ?_
    | (refine hK _ _ _ ?_; clear hK K))); all_goals (repeat (clear hK K)))
      all_goals first | exact fin_n (fin_p .r0 rfl rfl rfl rfl) | exact fin_r (fin_p .r0 rfl rfl rfl rfl)
  · have b1 : decide (0 ≤ a) = false := by simpa using h1
    refine RO.ofp Try.func34 Try.ntmps34 rfl (goFn_of Try.func34 rfl (by kernel_rfl)) rfl rfl rfl ?_
    ((repeat' (first
    | (show SQ _ _ _ _ _ _ _ _; first | apply sq_nil | (apply q_move; exact rfl; exact rfl) | (apply q_pick_f; exact rfl; exact rfl; exact rfl; exact (by first | assumption | exact rfl)) | (apply q_geq; exact rfl; exact rfl; exact rfl) | (apply q_s; exact rfl; exact rfl; exact rfl; exact (by assumption); exact rfl) | (apply q_s; exact rfl; exact rfl; exact rfl; exact rfl; exact rfl))
    | (show AW _ _ _ _ _ _ _ _; first | refine aw_region ?_ | (refine aw_seqk ?_; intro K hK) | (apply aw_cond_f; exact rfl; exact rfl) | refine aw_skip ?_)
    | refine thn_n ?_
    | (refine hK _ _ _ ?_; clear hK K))); all_goals (repeat (clear hK K)))
    all_goals first | exact fin_n (fin_p .r0 rfl rfl rfl rfl) | exact fin_r (fin_p .r0 rfl rfl rfl rfl)
def meO (ls : List (List Int)) (A B X Y base : Nat) : List (List AV) := ((outR base (ls.map List.length)).set A [.sl X 0 ((ls.getD A []).length + 1)]).set B [.sl Y 0 ((ls.getD B []).length + 1)]
def meE (ls : List (List Int)) (A B base : Nat) : Ef := (List.range ls.length).map fun i => (i + base, if i = A ∨ i = B then none else some ⟨2, 1, true, (ls.getD i []).map inL⟩)
def clB1 (k len : Nat) : Blk := ⟨40, 1, false, [[.sl k 0 len]]⟩
def offN (ls : List (List Int)) (A B : Nat) : Hp := (nst 2 (niT ls)).filter fun p => !(Nat.beq p.1 (A + 2) || Nat.beq p.1 (B + 2))
theorem offN_mem {ls : List (List Int)} {A B : Nat} {p : Nat × Blk} (h : p ∈ offN ls A B) : ∃ j, (niT ls)[j]? = some p.2 ∧ p.1 = 2 + j ∧ j ≠ A ∧ j ≠ B := by
  obtain ⟨h1, h2⟩ := List.mem_filter.1 h
  obtain ⟨j, g1, g2⟩ := nstM _ _ _ h1
  refine ⟨j, g1, g2, fun e => ?_, fun e => ?_⟩
  · subst e
    rw [g2, show 2 + j = j + 2 by omega, Nat.beq_refl] at h2
    simp at h2
  · subst e
    rw [g2, show 2 + j = j + 2 by omega, Nat.beq_refl] at h2
    simp at h2
theorem look_fil (q : Nat → Bool) (k : Nat) (hq : q k = true) : ∀ H : Hp, Aw.look (H.filter fun p => q p.1) k = Aw.look H k
  | [] => rfl
  | (i, b) :: H => by
    rw [List.filter_cons]
    by_cases e : i = k
    · subst e
      dsimp only
      rw [if_pos hq, look_cons, look_cons, if_pos rfl, if_pos rfl]
    · split
      · rw [look_cons, look_cons, if_neg e, if_neg e]; exact look_fil q k hq H
      · rw [look_cons, if_neg e]; exact look_fil q k hq H
theorem offN_at {ls : List (List Int)} {A B j : Nat} (h1 : j ≠ A) (h2 : j ≠ B) : Aw.look (offN ls A B) (j + 2) = (niT ls)[j]? := by
  have nb : ∀ a b : Nat, a ≠ b → Nat.beq a b = false := fun a b h => by
    cases hb : Nat.beq a b with
    | false => rfl
    | true => exact absurd (Nat.eq_of_beq_eq_true hb) h
  unfold offN
  rw [look_fil (fun i => !(Nat.beq i (A + 2) || Nat.beq i (B + 2))) (j + 2) (by rw [nb _ _ (by omega), nb _ _ (by omega)]; rfl), Nat.add_comm, look_nst_at]
def abR (A B z : Nat) : Nat := if z = 500 then A + 2 else if z = 501 then B + 2 else z
theorem abR_rows {ls : List (List Int)} {A B : Nat} (hA : A < ls.length) (hB : B < ls.length) (hne : A ≠ B) (hN : ls.length ≤ 24) :
    ((((outR 2 (ls.map List.length)).set A [.sl 500 0 (ls.getD A []).length]).set B [.sl 501 0 (ls.getD B []).length])).map (renL (abR A B)) = outR 2 (ls.map List.length) := by
  apply List.ext_getElem?
  intro j
  have gd : ∀ {i}, (h : i < ls.length) → ls.getD i [] = ls[i] := fun h => by rw [List.getD_eq_getElem?_getD, List.getElem?_eq_getElem h]; rfl
  rw [List.getElem?_map, List.getElem?_set, List.getElem?_set, List.length_set, outR_len, List.length_map, outR_get, List.getElem?_map]
  by_cases h1 : B = j
  · subst h1
    rw [if_pos rfl, if_pos hB, List.getElem?_eq_getElem hB, gd hB]
    simp [renL, renA, abR]; omega
  · rw [if_neg h1]
    by_cases h2 : A = j
    · subst h2
      rw [if_pos rfl, if_pos hA, List.getElem?_eq_getElem hA, gd hA]
      simp [renL, renA, abR]; omega
    · rw [if_neg h2]
      cases hj : ls[j]? with
      | none => rfl
      | some l =>
        have := (List.getElem?_eq_some_iff.1 hj).1
        simp only [Option.map_some, renL, renA]
        rw [show abR A B (2 + j) = 2 + j by unfold abR; rw [if_neg (by omega), if_neg (by omega)]]
theorem meO_ren {ls : List (List Int)} {A B X Y X' Y' base base' : Nat} {σ : Nat → Nat} (h1 : ∀ j, j < ls.length → σ (base + j) = base' + j) (hX : σ X = X') (hY : σ Y = Y') : (meO ls A B X Y base).map (renL σ) = meO ls A B X' Y' base' := by
  unfold meO
  rw [List.map_set, List.map_set, outR_ren _ base base' fun j hj => h1 j (by rw [List.length_map] at hj; exact hj)]
  simp only [renL, renA, hX, hY]
theorem meE_ren (ls : List (List Int)) (A B k : Nat) (hA : A < ls.length) (hB : B < ls.length) {σ : Nat → Nat} (h1 : ∀ i, i < ls.length + 2 → σ i = 1 + i) (h4 : ∀ i, σ (ls.length + 2 + i) = k + i) :
    renE σ ((0, some ⟨24, 1, false, meO ls A B (ls.length + 2) (ls.length + 3) 2⟩) :: (1, some (clB1 0 ls.length)) :: (meE ls A B 2 ++ [(ls.length + 2, some ⟨2, 1, true, (ls.getD A [] ++ [(B : Int)]).map inL⟩), (ls.length + 3, some ⟨2, 1, true, (ls.getD B [] ++ [(A : Int)]).map inL⟩)]))
      = ((1, some ⟨24, 1, false, meO ls A B k (k + 1) 3⟩) :: (2, some (clB1 1 ls.length)) :: (meE ls A B 3 ++ [(k, some ⟨2, 1, true, (ls.getD A [] ++ [(B : Int)]).map inL⟩), (k + 1, some ⟨2, 1, true, (ls.getD B [] ++ [(A : Int)]).map inL⟩)])) := by
  have k0 : σ (ls.length + 2) = k := by have := h4 0; rwa [Nat.add_zero, Nat.add_zero] at this
  have k1 : σ (ls.length + 3) = k + 1 := h4 1
  unfold renE
  rw [List.map_cons, List.map_cons, List.map_append, List.map_cons, List.map_cons, List.map_nil]
  dsimp only
  rw [k0, k1, h1 0 (by omega), h1 1 (by omega)]
  have e1 : Option.map (renB σ) (some ⟨24, 1, false, meO ls A B (ls.length + 2) (ls.length + 3) 2⟩) = some ⟨24, 1, false, meO ls A B k (k + 1) 3⟩ := by
    rw [Option.map_some]
    unfold renB
    dsimp only
    rw [meO_ren (X' := k) (Y' := k + 1) (base' := 3) (fun j hj => by rw [h1 _ (by omega)]; omega) k0 k1]
  have e2 : Option.map (renB σ) (some (clB1 0 ls.length)) = some (clB1 1 ls.length) := by
    rw [Option.map_some]
    unfold renB clB1
    dsimp only
    simp only [List.map_cons, List.map_nil, renL, renA]
    rw [h1 0 (by omega)]
  have e3 : (meE ls A B 2).map (fun p => (σ p.1, Option.map (renB σ) p.2)) = meE ls A B 3 := by
    unfold meE
    rw [List.map_map]
    refine List.map_congr_left fun i hi => ?_
    have hi := List.mem_range.1 hi
    dsimp only [Function.comp]
    rw [h1 _ (by omega)]
    refine Prod.ext (by dsimp only; omega) ?_
    dsimp only
    split
    · rfl
    · rfl
  rw [e1, e2, e3]
  rfl
theorem meE_keys (ls : List (List Int)) (A B base : Nat) : (meE ls A B base).map (·.1) = (List.range ls.length).map fun i => i + base := by
  unfold meE
  rw [List.map_map]; rfl
theorem meO_ids {ls : List (List Int)} {A B X Y base n : Nat} (hX : X < n) (hY : Y < n) (hb : base + ls.length ≤ n) : (meO ls A B X Y base).all (idsOkL n) = true := by
  rw [List.all_eq_true]
  intro r hr
  unfold meO at hr
  rcases List.mem_or_eq_of_mem_set hr with hr | rfl
  · rcases List.mem_or_eq_of_mem_set hr with hr | rfl
    · exact List.all_eq_true.1 (outR_ids _ _ (by rw [List.length_map]; exact hb)) r hr
    · simp [idsOkL, idsOk, Nat.blt_eq]; exact hX
  · simp [idsOkL, idsOk, Nat.blt_eq]; exact hY
theorem meE_ok (ls : List (List Int)) (A B : Nat) (hA : A < ls.length) (hB : B < ls.length) :
    okC (List.range' 1 (ls.length + 2)).length 2 [.v (.int .i64 A), .v (.int .i64 B), .ptr 1 0 0] ((0, ⟨24, 1, false, outR 2 (ls.map List.length)⟩) :: (1, clB1 0 ls.length) :: nst 2 (niT ls)) (.tup [])
      ((0, some ⟨24, 1, false, meO ls A B (ls.length + 2) (ls.length + 3) 2⟩) :: (1, some (clB1 0 ls.length)) :: (meE ls A B 2 ++ [(ls.length + 2, some ⟨2, 1, true, (ls.getD A [] ++ [(B : Int)]).map inL⟩), (ls.length + 3, some ⟨2, 1, true, (ls.getD B [] ++ [(A : Int)]).map inL⟩)])) = true := by
  rw [List.length_range']
  have lt : ∀ {a b : Nat}, a < b → Nat.blt a b = true := fun h => by rw [Nat.blt_eq]; exact h
  have q0 : Nat.blt 0 (ls.length + 2) = true := lt (by omega)
  have q1 : Nat.blt 1 (ls.length + 2) = true := lt (by omega)
  have c0 : ∀ n, 0 < n → idsOkB n (clB1 0 ls.length) = true := fun n hn => by
    show ([[AV.sl 0 0 ls.length]] : List (List AV)).all (idsOkL n) = true
    simp [idsOkL, idsOk, Nat.blt_eq]; exact hn
  unfold okC
  simp only [Bool.and_eq_true]
  refine ⟨⟨⟨⟨⟨?_, ?_⟩, ?_⟩, ?_⟩, ?_⟩, ?_⟩
  · simp only [List.all_cons, List.all_nil, idsOk, q1, Bool.and_true]
  · rw [List.all_cons, List.all_cons, allN _ (niT ls) 2 fun j b hb => ?_]
    · dsimp only
      rw [q0, q1, c0 _ (by omega), show idsOkB (ls.length + 2) ⟨24, 1, false, outR 2 (ls.map List.length)⟩ = true from outR_ids _ _ (by rw [List.length_map]; omega)]; rfl
    · obtain ⟨hj, rfl⟩ := niT_get hb
      dsimp only
      rw [lt (by omega)]; rfl
  · rw [List.all_eq_true]
    intro i hi
    have hi := List.mem_range.1 hi
    rw [Bool.and_eq_true]
    constructor
    · rw [look_cons]
      split
      · rfl
      · rw [look_cons]
        split
        · rfl
        · rw [look_nst, if_pos (by omega), List.getElem?_eq_getElem (by rw [niT_len]; omega)]; rfl
    · rw [List.contains_iff_mem, List.map_cons, List.map_cons, List.map_append, meE_keys, List.mem_cons, List.mem_cons, List.mem_append, List.mem_map]
      by_cases e0 : i = 0
      · exact .inl e0
      · by_cases e1 : i = 1
        · exact .inr (.inl e1)
        · exact .inr (.inr (.inl ⟨i - 2, List.mem_range.2 (by omega), by omega⟩))
  · rw [List.all_eq_true]
    intro p hp
    rcases List.mem_cons.1 hp with rfl | hp
    · rw [Bool.and_eq_true]
      exact ⟨lt (by dsimp only; omega), meO_ids (by omega) (by omega) (by omega)⟩
    rcases List.mem_cons.1 hp with rfl | hp
    · rw [Bool.and_eq_true]
      exact ⟨lt (by dsimp only; omega), c0 _ (by omega)⟩
    rcases List.mem_append.1 hp with hp | hp
    · unfold meE at hp
      obtain ⟨i, hi, rfl⟩ := List.mem_map.1 hp
      have hi := List.mem_range.1 hi
      rw [Bool.and_eq_true]
      refine ⟨lt (by dsimp only; omega), ?_⟩
      dsimp only
      by_cases e : i = A ∨ i = B
      · rw [if_pos e]
      · rw [if_neg e]; rfl
    rcases List.mem_cons.1 hp with rfl | hp
    · rw [Bool.and_eq_true]
      exact ⟨lt (by dsimp only; omega), rfl⟩
    rcases List.mem_cons.1 hp with rfl | hp
    · rw [Bool.and_eq_true]
      exact ⟨lt (by dsimp only; omega), rfl⟩
    · cases hp
  · rfl
  · rw [List.all_cons, List.all_cons, allN _ (niT ls) 2 fun j b hb => ?_]
    · rfl
    · obtain ⟨hj, rfl⟩ := niT_get hb
      rfl
theorem set4 {α : Type} {l : List α} {A B : Nat} {x y u v : α} (h : A ≠ B) : ((((l.set A x).set B y).set A u).set B v) = (l.set A u).set B v := by
  rw [List.set_comm x y h, List.set_set, List.set_comm y u h.symm, List.set_set]
def upR (N z : Nat) : Nat := if z = N + 2 then 1001 else if z = N + 3 then 1003 else z
set_option maxHeartbeats 4000000 in
theorem meetYes_rc (ls : List (List Int)) (hS : NbS ls) (A B : Nat) (hA : A < ls.length) (hB : B < ls.length) (hne : A ≠ B) (hN : ls.length ≤ 24) (k : Nat) : 
    RC Try.prog 34 [.v (.int .i64 A), .v (.int .i64 B), .ptr 2 0 0] ((1, ⟨24, 1, false, outR 3 (ls.map List.length)⟩) :: (2, clB1 1 ls.length) :: nst 3 (niT ls)) k (.tup [])
      ((1, some ⟨24, 1, false, meO ls A B k (k + 1) 3⟩) :: (2, some (clB1 1 ls.length)) :: (meE ls A B 3 ++ [(k, some ⟨2, 1, true, (ls.getD A [] ++ [(B : Int)]).map inL⟩), (k + 1, some ⟨2, 1, true, (ls.getD B [] ++ [(A : Int)]).map inL⟩)])) (k + 2) := by
  have h1 : ∀ i, i < ls.length + 2 → nmC (List.range' 1 (ls.length + 2)) k i = 1 + i := fun i hi => nmC_range (n := ls.length + 1) (by omega)
  have h4 : ∀ i, nmC (List.range' 1 (ls.length + 2)) k (ls.length + 2 + i) = k + i := fun i => by
    unfold nmC
    rw [List.getElem?_eq_none (by rw [List.length_range']; omega)]
    dsimp only
    rw [List.length_range']; omega
  have h2 : renB (nmC (List.range' 1 (ls.length + 2)) k) ⟨24, 1, false, outR 2 (ls.map List.length)⟩ = ⟨24, 1, false, outR 3 (ls.map List.length)⟩ := by
    unfold renB
    dsimp only
    rw [outR_ren _ 2 3 fun j hj => by rw [List.length_map] at hj; rw [h1 _ (by omega)]; omega]
  have h3 : renB (nmC (List.range' 1 (ls.length + 2)) k) (clB1 0 ls.length) = clB1 1 ls.length := by
    unfold renB clB1
    dsimp only
    simp only [List.map_cons, List.map_nil, renL, renA]
    rw [h1 0 (by omega)]
  refine RC.ofc (g := ls.length + 2) (List.range' 1 (ls.length + 2)) 2 [.v (.int .i64 A), .v (.int .i64 B), .ptr 1 0 0] ((0, ⟨24, 1, false, outR 2 (ls.map List.length)⟩) :: (1, clB1 0 ls.length) :: nst 2 (niT ls)) (.tup [])
    ((0, some ⟨24, 1, false, meO ls A B (ls.length + 2) (ls.length + 3) 2⟩) :: (1, some (clB1 0 ls.length)) :: (meE ls A B 2 ++ [(ls.length + 2, some ⟨2, 1, true, (ls.getD A [] ++ [(B : Int)]).map inL⟩), (ls.length + 3, some ⟨2, 1, true, (ls.getD B [] ++ [(A : Int)]).map inL⟩)]))
    Try.func34 Try.ntmps34 rfl (goFn_of Try.func34 rfl (by kernel_rfl)) rfl rfl ?_ ?_ rfl ?_ rfl ?_ List.nodup_range' List.length_range' ?_
  · simp only [List.map_cons, List.map_nil, renA]
    rw [h1 1 (by omega)]
  · show (nmC _ _ 0, renB _ _) :: (nmC _ _ 1, renB _ _) :: renH _ (nst 2 (niT ls)) = _
    rw [renH_nst (niT ls) 2 3 (niT_pl ls) fun j hj => by rw [niT_len] at hj; rw [h1 _ (by omega)]; omega, h1 0 (by omega), h1 1 (by omega)]
    rw [h2, h3]
  · exact meE_ren ls A B k hA hB h1 h4
  · exact meE_ok ls A B hA hB
  have b1 : decide (0 ≤ (A : Int)) = true := by simp
  have b2 : decide (0 ≤ (B : Int)) = true := by simp
  have b3 : ((A : Int) != (B : Int)) = true := by simp; omega
  have hnl := niT_len ls
  unfold clB1
  refine aw_weak (ρ := abR A B) (n' := 1000) (T' := idx 0 [.v (.int .i64 A), .v (.int .i64 B), .ptr 1 0 0]) (H' := [(0, ⟨24, 1, false, ((outR 2 (ls.map List.length)).set A [.sl 500 0 (ls.getD A []).length]).set B [.sl 501 0 (ls.getD B []).length]⟩), (1, ⟨40, 1, false, [[.sl 0 0 ls.length]]⟩), (500, ⟨2, 1, true, (ls.getD A []).map inL⟩), (501, ⟨2, 1, true, (ls.getD B []).map inL⟩)] ++ offN ls A B) ?_ ?_
  · refine ⟨⟨lk_i rfl rfl, lk_i rfl rfl, lk_r rfl rfl rfl, trivial⟩, subH_of _ fun p hp => ?_, injB_of fun a ha c hc he => ?_, fun i hi => ⟨?_, by omega⟩⟩
    · rcases List.mem_append.1 hp with hp | hp
      · simp only [List.mem_cons, List.mem_nil_iff, or_false] at hp
        rcases hp with rfl | rfl | rfl | rfl
        · refine ⟨?_, ?_, by dsimp only; omega⟩
          · show some _ = some (Blk.mk _ _ _ (List.map (renL (abR A B)) _))
            rw [abR_rows hA hB hne hN]
          · show List.all _ (idsOkL 1000) = true
            rw [List.all_eq_true]
            intro r hr
            rcases List.mem_or_eq_of_mem_set hr with hr | rfl
            · rcases List.mem_or_eq_of_mem_set hr with hr | rfl
              · exact List.all_eq_true.1 (outR_ids _ _ (by rw [List.length_map]; omega)) r hr
              · rfl
            · rfl
        · exact ⟨rfl, rfl, by dsimp only; omega⟩
        · refine ⟨?_, rfl, by dsimp only; omega⟩
          show Aw.look _ (A + 2) = some _
          rw [look_cons, if_neg (by omega), look_cons, if_neg (by omega), Nat.add_comm, look_nst_at, niT, List.getElem?_map, List.getD_eq_getElem?_getD, List.getElem?_eq_getElem hA]; rfl
        · refine ⟨?_, rfl, by dsimp only; omega⟩
          show Aw.look _ (B + 2) = some _
          rw [look_cons, if_neg (by omega), look_cons, if_neg (by omega), Nat.add_comm, look_nst_at, niT, List.getElem?_map, List.getD_eq_getElem?_getD, List.getElem?_eq_getElem hB]; rfl
      · obtain ⟨j, g1, g2, _, _⟩ := offN_mem hp
        have hj := nlt g1
        obtain ⟨z, b⟩ := p
        dsimp only at g1 g2 ⊢
        subst g2
        obtain ⟨hj2, rfl⟩ := niT_get g1
        refine ⟨?_, rfl, by omega⟩
        rw [show abR A B (2 + j) = 2 + j by unfold abR; rw [if_neg (by omega), if_neg (by omega)]]
        rw [look_cons, if_neg (by omega), look_cons, if_neg (by omega), look_nst_at]; exact g1
    · have key : ∀ a, a ∈ List.map (fun p : Nat × Blk => p.1) ([(0, (⟨24, 1, false, ((outR 2 (ls.map List.length)).set A [.sl 500 0 (ls.getD A []).length]).set B [.sl 501 0 (ls.getD B []).length]⟩ : Blk)), (1, ⟨40, 1, false, [[.sl 0 0 ls.length]]⟩), (500, ⟨2, 1, true, (ls.getD A []).map inL⟩), (501, ⟨2, 1, true, (ls.getD B []).map inL⟩)] ++ offN ls A B) → a = 500 ∨ a = 501 ∨ (a < 2 + ls.length ∧ a ≠ A + 2 ∧ a ≠ B + 2) := fun a ha => by
        rw [List.map_append, List.mem_append] at ha
        rcases ha with ha | ha
        · simp only [List.map_cons, List.map_nil, List.mem_cons, List.mem_nil_iff, or_false] at ha
          omega
        · obtain ⟨p, hp, rfl⟩ := List.mem_map.1 ha
          obtain ⟨j, g1, g2, _, _⟩ := offN_mem hp
          have hj := nlt g1
          omega
      have ka := key a ha
      have kc := key c hc
      unfold abR at he
      split at he <;> split at he <;> (try split at he) <;> (try split at he) <;> omega
    · unfold abR; rw [if_neg (by omega), if_neg (by omega)]
  dsimp only [List.cons_append, List.nil_append]
  have hLA : (ls.getD A []).length ≤ 1048576 := by rw [List.getD_eq_getElem?_getD, List.getElem?_eq_getElem hA]; exact hS.m _ (List.getElem_mem hA)
  have hLB : (ls.getD B []).length ≤ 1048576 := by rw [List.getD_eq_getElem?_getD, List.getElem?_eq_getElem hB]; exact hS.m _ (List.getElem_mem hB)
  have hol : (outR 2 (ls.map List.length)).length = ls.length := by rw [outR_len, List.length_map]
  have hmA : ((ls.getD A []).map inL).length = (ls.getD A []).length := List.length_map _
  have hmB : ((ls.getD B []).map inL).length = (ls.getD B []).length := List.length_map _
  have hoA : (((outR 2 (ls.map List.length)).set A [.sl 500 0 (ls.getD A []).length]).set B [.sl 501 0 (ls.getD B []).length])[0 + ((A : Int)).toNat]? = some [.sl 500 0 (ls.getD A []).length] := by
    rw [Nat.zero_add, Int.toNat_natCast, List.getElem?_set_ne (fun e => hne e.symm), List.getElem?_set_self (by omega)]
  have hoB : (((outR 2 (ls.map List.length)).set A [.sl 500 0 (ls.getD A []).length]).set B [.sl 501 0 (ls.getD B []).length])[0 + ((B : Int)).toNat]? = some [.sl 501 0 (ls.getD B []).length] := by
    rw [Nat.zero_add, Int.toNat_natCast, List.getElem?_set_self (by rw [List.length_set]; omega)]
  have hsl : (((outR 2 (ls.map List.length)).set A [.sl 500 0 (ls.getD A []).length]).set B [.sl 501 0 (ls.getD B []).length]).length = ls.length := by rw [List.length_set, List.length_set]; exact hol
  generalize hRR : ((outR 2 (ls.map List.length)).set A [.sl 500 0 (ls.getD A []).length]).set B [.sl 501 0 (ls.getD B []).length] = R at *
  generalize hla : ls.getD A [] = la at *
  generalize hlb : ls.getD B [] = lb at *
  generalize hRS : offN ls A B = rest at *
  have hoB2 : (R.set (((A : Int)).toNat) [.sl 1001 0 (la.length + 1)])[0 + ((B : Int)).toNat]? = some [.sl 501 0 lb.length] := by
    rw [List.getElem?_set_ne (by simp; omega)]; exact hoB
  ((repeat' (first
    | (show SQ _ _ _ _ _ _ _ _; first | apply sq_nil | (apply q_move; exact rfl; exact rfl) | (apply q_pick_t; exact rfl; exact rfl; exact rfl; exact (by first | assumption | exact rfl)) | (apply q_neq; exact rfl; exact rfl; exact rfl) | (apply q_geq; exact rfl; exact rfl; exact rfl) | (apply q_g; exact rfl; exact rfl; exact rfl; exact (by assumption)))
    | (show DE _ _ _ _ _ _ _ _ _ _ _ _; first | (apply e_rdi; exact rfl; exact rfl; exact rfl; exact (ty rfl); exact rfl; exact rfl; exact rfl; exact (by first | omega | (simp; done) | (simp; omega)); exact (by first | omega | (simp; done) | (simp; omega)); exact rfl; exact rfl) | (apply e_move; exact rfl; exact rfl; exact rfl) | (apply e_ixl; exact rfl; exact rfl; exact rfl; exact (ty rfl); exact rfl; exact rfl; exact rfl; exact (by first | omega | (simp; done) | (simp; omega)); exact (by first | omega | (simp; done) | (simp; omega)); exact rfl) | (apply e_ld1p; exact rfl; exact rfl; exact (ty rfl); exact rfl; exact rfl; exact (by first | rfl | assumption | ((try simp only [Nat.zero_add]); refine List.getElem?_set_self ?_; (try simp only [List.length_set]); assumption)); exact rfl; exact rfl))
    | (show DE _ _ _ _ _ _ _ _ _ _ _ _; (first | (apply dr_nil; (focus ((repeat (first | exact trivial | exact Or.inr rfl | exact Or.inl (by kernel_rfl) | apply And.intro)); done))) | (apply e_rd1; exact rfl; exact rfl; exact (ty rfl); exact rfl; exact rfl; exact (by first | rfl | assumption | ((try simp only [Nat.zero_add]); refine List.getElem?_set_self ?_; (try simp only [List.length_set]); assumption)); exact rfl; exact rfl; exact rfl) | (apply e_store; exact rfl; exact rfl; exact (ty rfl); exact rfl; exact (by first | rfl | assumption | ((try simp only [Nat.zero_add]); refine List.getElem?_set_self ?_; (try simp only [List.length_set]); assumption)); exact rfl; exact rfl; exact rfl; exact rfl) | (apply e_buildn; exact rfl; exact (ty rfl); exact rfl; exact rfl; exact rfl; exact rfl; exact rfl; exact rfl; exact rfl; exact rfl) | (apply e_apo_s; exact rfl; exact rfl; exact rfl; exact (ty rfl); exact rfl; exact rfl; exact (by first | omega | (simp; done) | (simp; omega)); exact (by first | exact List.take_of_length_le (by first | omega | (simp; done) | (simp; omega)) | rfl); exact (ty rfl); exact rfl; exact rfl; exact (by first | omega | (simp; done) | (simp; omega)); exact (by first | exact dt_full (by first | omega | (simp; done) | (simp; omega)) | assumption | rfl); exact rfl; exact (by first | omega | (simp; done) | (simp; omega)); exact (by first | omega | (simp; done) | (simp; omega)); exact (by first | assumption | exact rfl); exact rfl)); (try simp only [put, rowsOf, plR, List.all_cons, selE, ovr, setH, del, cellsA, splice, isV, List.nil_append, List.cons_append, List.map_cons, List.map_nil, List.length_cons, List.length_nil, List.set_cons_zero, List.set_cons_succ, List.take_succ_cons, List.take_zero, List.take_nil, List.drop_succ_cons, List.drop_zero, List.drop_nil, List.append_nil, List.all_cons, List.all_nil, Bool.and_true, Bool.true_and, Bool.and_false, Bool.false_and, Nat.reduceAdd, Nat.zero_add, Nat.add_zero, Nat.reduceEqDiff, if_true, if_false, reduceIte]))
    | (show AW _ _ _ _ _ _ _ _; first | refine aw_region ?_ | (refine aw_seqk ?_; intro K hK) | (apply aw_cond_t; exact rfl; exact (by assumption)) | refine aw_drawE (id := 1) [0, 0, 0, 0, 0, 0, 48, 112, 0, 256, 1008, 0, 0, 6144, 14336, 0, 32768, 131056, 262131, 524275, 1048575, 2097151] [0, 0, 0, 0, 1, 0, 1, 1, 0, 1, 2, 0, 0, 0, 0, 0, 3, 2, 1, 2, 1, 2, 0, 1, 2, 1, 11, 1, 13, 0, 14, 0] mixed (by kernel_rfl) ?_)
    | refine thn_n ?_
    | (refine hK _ _ _ ?_; clear hK K)
    | (show DE _ _ _ _ _ _ _ _ _ _ _ _; apply e_b31; exact rfl; exact (ty rfl); exact rfl; exact rfl; exact rfl; exact rfl; exact rfl))); all_goals (repeat (clear hK K)))
  have rr : ∀ z, z < ls.length + 2 → upR ls.length z = z := fun z hz => by unfold upR; rw [if_neg (by omega), if_neg (by omega)]
  have r2 : upR ls.length (ls.length + 2) = 1001 := if_pos rfl
  have r3 : upR ls.length (ls.length + 3) = 1003 := by unfold upR; rw [if_neg (by omega), if_pos rfl]
  refine ⟨upR ls.length, ⟨.r0, fun i hi => rr i hi, fun i b hb => ?_, ?_⟩⟩
  · rcases List.mem_cons.1 hb with e | hb
    · cases e
      rw [rr 0 (by omega), look_cons, if_pos rfl]
      unfold renB
      dsimp only
      rw [meO_ren (X' := 1001) (Y' := 1003) (base' := 2) (σ := upR ls.length) (fun j hj => rr _ (by omega)) r2 r3, ← hRR]
      unfold meO
      rw [hla, hlb, Int.toNat_natCast, Int.toNat_natCast, set4 hne]
    rcases List.mem_cons.1 hb with e | hb
    · cases e
      rw [rr 1 (by omega)]
      show some _ = some (Blk.mk _ _ _ [[_]])
      simp only [renA]
      rw [rr 0 (by omega)]
    rcases List.mem_append.1 hb with hb | hb
    · unfold meE at hb
      obtain ⟨j, hj, e⟩ := List.mem_map.1 hb
      have hj := List.mem_range.1 hj
      simp only [Prod.mk.injEq] at e
      obtain ⟨rfl, e⟩ := e
      split at e
      · cases e
      · rename_i hn
        cases e
        rw [rr _ (by omega)]
        iterate 6 rw [look_cons, if_neg (by omega)]
        iterate 8 rw [look_del_ne _ (by omega)]
        rw [← hRS, offN_at (by omega) (by omega), niT, List.getElem?_map, List.getD_eq_getElem?_getD, List.getElem?_eq_getElem hj]; rfl
    · rcases List.mem_cons.1 hb with e | hb
      · cases e
        rw [r2, List.map_append]; rfl
      rcases List.mem_cons.1 hb with e | hb
      · cases e
        rw [r3, List.map_append]; rfl
      · cases hb
  · refine injB_of fun a ha c hc he => ?_
    have key : ∀ a, a ∈ List.filterMap (fun p : Nat × Option Blk => p.2.map fun _ => p.1) ((0, some ⟨24, 1, false, meO ls A B (ls.length + 2) (ls.length + 3) 2⟩) :: (1, some ⟨40, 1, false, [[AV.sl 0 0 ls.length]]⟩) :: (meE ls A B 2 ++ [(ls.length + 2, some ⟨2, 1, true, (la ++ [(B : Int)]).map inL⟩), (ls.length + 3, some ⟨2, 1, true, (lb ++ [(A : Int)]).map inL⟩)])) → a ≤ ls.length + 3 := fun a ha => by
      obtain ⟨p, hp, e⟩ := List.mem_filterMap.1 ha
      have e1 : p.1 = a := by
        cases hq : p.2 with
        | none => rw [hq] at e; cases e
        | some b => rw [hq] at e; simpa using e
      subst e1
      rcases List.mem_cons.1 hp with rfl | hp
      · dsimp only; omega
      rcases List.mem_cons.1 hp with rfl | hp
      · dsimp only; omega
      rcases List.mem_append.1 hp with hp | hp
      · unfold meE at hp
        obtain ⟨j, hj, rfl⟩ := List.mem_map.1 hp
        have hj := List.mem_range.1 hj
        dsimp only; omega
      · rcases List.mem_cons.1 hp with rfl | hp
        · dsimp only; omega
        rcases List.mem_cons.1 hp with rfl | hp
        · dsimp only; omega
        · cases hp
    have ka := key a ha
    have kc := key c hc
    unfold upR at he
    split at he <;> (try split at he) <;> (try split at he) <;> (try split at he) <;> omega
end Go.Proofs.Ytljpgbgokjiamaa.St

namespace Go.Proofs.Ytljpgbgokjiamaa.So
open Go.Shelf Go.Proofs
def laysCompact_ren : Go.Shelf.Ren := ⟨fun | 43 => 36 | n => n, fun | 22 => 24 | 23 => 2 | 3 => 3 | 4 => 4 | 0 => 0 | n => n, fun | n => n⟩
theorem laysCompact : Go.Proofs.SlLaysN.n43 Try.prog laysCompact_ren := {
  mixed := by kernel_rfl
  f43 := ⟨Try.f36.name, by decide, Try.func36.trans (congrArg some (by kernel_rfl))⟩
  t0 := Try.underlying0
  a0 := Try.isAgg0
  z0 := Try.sizeOf0
  v0 := Try.zeroValue0
  t3 := Try.underlying3
  a3 := Try.isAgg3
  z3 := Try.sizeOf3
  v3 := Try.zeroValue3
  t4 := Try.underlying4
  a4 := Try.isAgg4
  z4 := Try.sizeOf4
  v4 := Try.zeroValue4
  t22 := Try.underlying24
  a22 := Try.isAgg24
  z22 := Try.sizeOf24
  v22 := Try.zeroValue24
  t23 := Try.underlying2
  a23 := Try.isAgg2
  z23 := Try.sizeOf2
  v23 := Try.zeroValue2
  i23 := by kernel_rfl }
open Go.RowKit Go.Lib Go.Sort in
open Go.RowKit Go.Lib Go.Sort in
theorem slices_Compact_int (blk off cap : Nat) (zs : List Int) (w : World) (hH : Holds (Value.int .i64) w blk off zs.toArray) (hsz : zs.length ≤ 9223372036854775807) (hcap : zs.length ≤ cap) :
    Calls Try.prog 36 #[.slice (some ⟨blk, off, none⟩) zs.length cap] w fun e w' => e = .returned (.slice (some ⟨blk, off, none⟩) (Lib.compact zs).length cap) ∧ ∃ q, w' = putRow (Value.int .i64) (Sort.ahead w q) blk off (Lib.compact zs ++ List.replicate (zs.length - (Lib.compact zs).length) 0).toArray := AnyG.slices_Compact_int laysCompact blk off cap zs w hH hsz hcap
open Go.RowKit Go.Lib Go.Sort in
theorem slices_Compact_int_empty (a : Option Addr) (cap : Nat) (w : World) :
    Calls Try.prog 36 #[.slice a 0 cap] w fun e w' => e = .returned (.slice a 0 cap) ∧ w' = w := AnyG.slices_Compact_int_empty laysCompact a cap w
end Go.Proofs.Ytljpgbgokjiamaa.So

namespace Go.Proofs.Ytljpgbgokjiamaa.So
open Go Go.RowKit Go.Proofs.Ytljpgbgokjiamaa.Aw Go.Proofs.Ytljpgbgokjiamaa.Bk
set_option linter.unusedSimpArgs false
set_option linter.unusedVariables false
set_option maxHeartbeats 4000000 in
theorem Compact_rc (b : Nat) (xs : List Int) (hn : xs.length ≤ 1048576) (k : Nat) : RC Try.prog 36 [.sl b 0 xs.length] [(b, ⟨2, 1, true, xs.map inL⟩)] k (.sl b 0 (Lib.compact xs).length) [(b, some ⟨2, 1, true, (Lib.compact xs).map inL⟩)] k := by
  refine ⟨goFn_of Try.func36 rfl (by kernel_rfl), Nat.le_refl _, fun i ob h => .inl ?_, fun K m S w vs hk hS hin hown hinj hom _ _ hv => ?_⟩
  · rw [lkE_cons] at h
    split at h
    · rename_i e; subst e; rw [look_cons, if_pos rfl]; rfl
    · simp [lkE] at h
  have hl : Aw.look [(b, (⟨2, 1, true, xs.map inL⟩ : Blk))] b = some ⟨2, 1, true, xs.map inL⟩ := by rw [look_cons, if_pos rfl]
  have one : ∀ {B : Blk} {i : Nat} {c : Blk}, Aw.look [(b, B)] i = some c → i = b ∧ c = B := fun h => by
    rw [look_cons] at h
    split at h
    · rename_i e; cases h; exact ⟨e.symm, rfl⟩
    · simp [look_nil] at h
  have ovE : ∀ {i : Nat} {c : Blk}, Aw.look (ovr [(b, some (⟨2, 1, true, (Lib.compact xs).map inL⟩ : Blk))] [(b, (⟨2, 1, true, xs.map inL⟩ : Blk))]) i = some c → i = b ∧ c = ⟨2, 1, true, (Lib.compact xs).map inL⟩ := fun {i c} h => by
    rw [look_ovr, lkE_cons] at h
    split at h
    · rename_i e; cases h; exact ⟨e.symm, rfl⟩
    · rename_i e
      simp only [lkE, Option.getD_none] at h
      exact absurd (one h).1 (fun x => e x.symm)
  obtain ⟨hvl, hvv⟩ := hv
  obtain ⟨x, rfl⟩ : ∃ x, vs = [x] := by
    match vs, hvl with
    | [x], _ => exact ⟨x, rfl⟩
  have hx := hvv 0 _ x rfl rfl
  generalize hnn : xs.length = nn at hx
  have post : ∀ w' r, VR K w' m (addS S k k) (.sl b 0 (Lib.compact xs).length) r → w.grownBy w' (if (m b).ph = false then some (m b).blk else none) → OB K w' m (addS S k k) b ⟨2, 1, true, (Lib.compact xs).map inL⟩ → PostC [(b, (⟨2, 1, true, xs.map inL⟩ : Blk))] [(b, some ⟨2, 1, true, (Lib.compact xs).map inL⟩)] K m S w k k (.sl b 0 (Lib.compact xs).length) r w' m K := fun w' r hvr hg ho =>
    { ag := fun _ _ => rfl, os := hg.os, tape := hg.tape, output := hg.output, size := hg.size
      keep := fun j hj hne => hg.block j hj (fun e => by
        split at e
        · rename_i hp; simp only [Option.some.injEq] at e; exact hne b _ hl hp e.symm
        · cases e)
      gk := fun _ h => h, gk2 := fun _ h => .inl h, kb := fun j h => Nat.lt_of_lt_of_le (hk j h) hg.size
      vr := hvr
      loc := fun i c h hp => by obtain ⟨rfl, rfl⟩ := ovE h; exact .inr ⟨i, _, hl, hp, rfl⟩
      om := fun i c h hp hq => by obtain ⟨rfl, rfl⟩ := ovE h; have := hom i _ hl hp hq; cases this
      own := fun i c h => by obtain ⟨rfl, rfl⟩ := ovE h; exact ho
      inj := fun i j bi bj h1 h2 hne => by obtain ⟨rfl, _⟩ := ovE h1; obtain ⟨rfl, _⟩ := ovE h2; exact absurd rfl hne }
  have hle : (Lib.compact xs).length ≤ xs.length := by
    unfold Lib.compact Lib.compactUpTo
    rw [List.length_map]
    have := List.length_filter_le (Lib.keeps xs.toArray) (List.range xs.length)
    rw [List.length_range] at this
    exact this
  cases hx with
  | sl0 _ _ _ ad hSb =>
    have h0 : xs = [] := List.length_eq_zero_iff.1 hnn
    have h1 : Lib.compact xs = [] := List.length_eq_zero_iff.1 (by omega)
    refine (slices_Compact_int_empty ad 0 w).mono ?_
    rintro e w' ⟨rfl, rfl⟩
    refine ⟨_, m, K, rfl, post _ _ (by rw [h1]; exact .sl0 _ _ _ _ (.inl hSb)) ⟨rfl, rfl, rfl, Nat.le_refl _, fun _ _ _ => rfl⟩ ?_⟩
    have := hown b _ hl
    rw [h0] at this
    rw [h1]
    exact this.mono (fun _ _ => rfl) (fun _ _ => rfl) (fun i h => .inl h) (fun _ _ => rfl) (hin b _ hl)
  | sl _ _ _ _ o c hSb hph ho hc =>
    subst hnn
    rcases hown b _ hl with ⟨h, _⟩ | ⟨_, hB⟩
    · rw [hph] at h; cases h
    obtain ⟨cur, g1, g2, g3⟩ := hB.ex
    have o0 : o = 0 := by rw [ho, Nat.zero_mul]
    subst o0
    have hcell : ∀ j, (hj : j < xs.length) → cur[j]? = some (.int .i64 xs[j]) := fun j hj => by
      obtain ⟨_, q⟩ := g3 j (inL xs[j]) (by simp [hj])
      obtain ⟨y, y1, _, y3⟩ := q 0 (.v (.int .i64 xs[j])) rfl
      cases y3
      simpa using y1
    have hcap := hB.cap
    have hszz := hB.sz
    simp only [List.length_map, Nat.mul_one] at hcap g2 hszz
    have hH : Sort.Holds (Value.int .i64) w (m b).blk 0 xs.toArray := fun j hj => by
      have hj : j < xs.length := by simpa using hj
      refine ⟨?_, by simp [World.frozen?, g1]⟩
      have := hcell j hj
      simp only [World.cell?, g1, Nat.zero_add, Option.isSome_none, Bool.false_eq_true, if_false]
      rw [this]
      simp [getElem!_pos, hj]
    refine (slices_Compact_int (m b).blk 0 c xs w hH (by omega) (by rw [hc]; omega)).mono ?_
    rintro e w' ⟨rfl, q, hq⟩
    have eg : ∀ u : World, Sort.grow u #[] = u := fun u => by unfold Sort.grow; rw [Array.append_empty]
    generalize hds : Lib.compact xs ++ List.replicate (xs.length - (Lib.compact xs).length) 0 = ds at hq
    have hdl : ds.length = xs.length := by rw [← hds, List.length_append, List.length_replicate]; omega
    have hdg : ∀ r, r < (Lib.compact xs).length → ds[r]? = (Lib.compact xs)[r]? := fun r hr => by rw [← hds, List.getElem?_append_left hr]
    obtain ⟨os, hq⟩ : ∃ os, w' = Sort.grow (Sort.putRow (Value.int .i64) (Sort.ahead w q) (m b).blk 0 ds.toArray) os := ⟨#[], by rw [hq, eg]⟩
    subst hq
    refine ⟨_, m, K, rfl, post _ _ (.sl _ _ _ _ _ _ (.inl hSb) hph (by rw [Nat.zero_mul]) hc) (by rw [if_pos hph]; exact grownBy_sortedI _) (.inr ⟨hph, ?_⟩)⟩
    have hb' := heap_sortedI (n := q) (os := os) ds.toArray g1
    refine ⟨hB.nk, hB.sz, by simp only [List.length_map]; omega, hB.capm, fun _ r row hr j cv hj => ?_, _, hb', by simp [Sort.putCells, g2], fun r row hr => ?_⟩
    · rw [List.getElem?_map] at hr
      cases hq : (Lib.compact xs)[r]? with
      | none => rw [hq] at hr; cases hr
      | some z =>
        rw [hq] at hr; cases hr
        match j, hj with
        | 0, hj => cases hj; rfl
    · rw [List.getElem?_map] at hr
      cases hq : (Lib.compact xs)[r]? with
      | none => rw [hq] at hr; cases hr
      | some z =>
        rw [hq] at hr; cases hr
        refine ⟨rfl, fun j cv hj => ?_⟩
        match j, hj with
        | 0, hj =>
          cases hj
          have hr2 : r < (Lib.compact xs).length := (List.getElem?_eq_some_iff.1 hq).1
          refine ⟨.int .i64 z, ?_, rfl, .v _ _⟩
          have hr3 : r < cur.size := by omega
          have hr4 : r < ds.length := by omega
          have hz : ds[r] = z := (List.getElem?_eq_some_iff.1 ((hdg r hr2).trans hq)).2
          simp [Sort.putCells, Array.getElem?_mapIdx, hr2, hr3, hr4, hz]
end Go.Proofs.Ytljpgbgokjiamaa.So

namespace Go.Proofs.Ytljpgbgokjiamaa.St
open Go Go.RowKit Go.Proofs.Ytljpgbgokjiamaa.Aw Go.Proofs.Ytljpgbgokjiamaa.In Go.Proofs.Ytljpgbgokjiamaa.Il Go.Proofs.Ytljpgbgokjiamaa.Sr Go.Proofs.Ytljpgbgokjiamaa.Nb
set_option linter.unusedSimpArgs false
set_option linter.unusedVariables false
attribute [local irreducible] AW SQ Step RO RC DE Thn InB
def adR (r : Ras) (ls : List (List Int)) (i : Nat) : List (List Int) := if (((i : Int) + 1).tmod r.wd != 0) = true then meetL ls (r.sv.getD i 0) (r.sv.getD (i + 1) 0) else ls
def adD (r : Ras) (ls : List (List Int)) (i : Nat) : List (List Int) := if (i : Int) + r.wd < r.sv.length then meetL ls (r.sv.getD i 0) (r.sv.getD (i + r.wd.toNat) 0) else ls
def adF (r : Ras) : Nat → List (List Int)
  | 0 => List.replicate (svN r).toNat []
  | i + 1 => adD r (adR r (adF r i) i) i
structure AdS (N m : Nat) (ls : List (List Int)) : Prop where
  ok : AdjOk N ls
  m : ∀ i, (ls.getD i []).length ≤ m
theorem AdS.mono {N m m' : Nat} {ls : List (List Int)} (h : AdS N m ls) (hm : m ≤ m') : AdS N m' ls := ⟨h.ok, fun i => Nat.le_trans (h.m i) hm⟩
theorem AdS.nbS {N m : Nat} {ls : List (List Int)} (h : AdS N m ls) (hN : N ≤ 24) (hm : m ≤ 1048576) : NbS ls := ⟨by rw [h.ok.n]; omega, fun l hl => by
  obtain ⟨i, hi⟩ := List.getElem?_of_mem hl
  have := h.m i
  rw [List.getD_eq_getElem?_getD, hi] at this
  exact Nat.le_trans this hm⟩
theorem AdS.meet {N m : Nat} {ls : List (List Int)} (h : AdS N m ls) (a b : Int) (ha : a < N) (hb : b < N) : AdS N (m + 1) (meetL ls a b) := by
  refine ⟨h.ok.meet a b ha hb, fun i => ?_⟩
  unfold meetL
  split
  · rename_i hc
    have hA : a.toNat < ls.length := by rw [h.ok.n]; omega
    have hB : b.toNat < ls.length := by rw [h.ok.n]; omega
    by_cases h1 : b.toNat = i
    · subst h1
      rw [getD_set_self (by rw [List.length_set]; exact hB), List.length_append, List.length_singleton]
      have := h.m b.toNat
      omega
    · rw [getD_set_ne h1]
      by_cases h2 : a.toNat = i
      · subst h2
        rw [getD_set_self hA, List.length_append, List.length_singleton]
        have := h.m a.toNat
        omega
      · rw [getD_set_ne h2]
        have := h.m i
        omega
  · have := h.m i; omega
theorem AdS.zero (N : Nat) : AdS N 0 (List.replicate N []) := ⟨AdjOk.zero N, fun i => by
  rw [List.getD_eq_getElem?_getD, List.getElem?_replicate]; split <;> simp⟩
theorem last_row {w h n i : Int} (hw : 0 < w) (hn : n = w * h) (h0 : 0 ≤ i) (hi : i < n) (hm : (i + 1).tmod w ≠ 0) : i + 1 < n := by
  by_cases e : i + 1 = n
  · exfalso
    apply hm
    rw [e, hn]
    exact Int.mul_tmod_right w h
  · omega
theorem adR_ok {r : Ras} (hok : okR r = true) {m i : Nat} {ls : List (List Int)} (h : AdS (svN r).toNat m ls) (hi : i < r.sv.length) : AdS (svN r).toNat (m + 1) (adR r ls i) := by
  obtain ⟨h1, h2, h3⟩ := svN_bd hok
  obtain ⟨_, hw, _, hn, _⟩ := ok_nums hok
  unfold adR
  split
  · rename_i hc
    have hlt := last_row (i := (i : Int)) (by omega) hn (by omega) (by omega) (by simpa using hc)
    have a1 := h3 i hi
    have a2 := h3 (i + 1) (by omega)
    exact h.meet _ _ (by omega) (by omega)
  · exact h.mono (by omega)
theorem adD_ok {r : Ras} (hok : okR r = true) {m i : Nat} {ls : List (List Int)} (h : AdS (svN r).toNat m ls) (hi : i < r.sv.length) : AdS (svN r).toNat (m + 1) (adD r ls i) := by
  obtain ⟨h1, h2, h3⟩ := svN_bd hok
  obtain ⟨_, hw, _⟩ := ok_nums hok
  unfold adD
  split
  · rename_i hc
    have a1 := h3 i hi
    have a2 := h3 (i + r.wd.toNat) (by omega)
    exact h.meet _ _ (by omega) (by omega)
  · exact h.mono (by omega)
theorem adF_ok {r : Ras} (hok : okR r = true) : ∀ i, i ≤ r.sv.length → AdS (svN r).toNat (2 * i) (adF r i)
  | 0, _ => AdS.zero _
  | i + 1, hi => (adD_ok hok (adR_ok hok (adF_ok hok i (by omega)) (by omega)) (by omega)).mono (by omega)
def hp3 (B0 : Blk) (ls : List (List Int)) : Hp := [(0, B0), (1, ⟨24, 1, false, outR 3 (ls.map List.length)⟩), (2, clB1 1 ls.length)] ++ nst 3 (niT ls)
theorem sub_h3 {g n' : Nat} {T T' : Tp} {H : Hp} {B0 : Blk} {ls : List (List Int)} (ht : subT T id n' T') (h0 : Aw.look H 0 = some B0) (hr0 : renB id B0 = B0) (hi0 : idsOkB n' B0 = true) (h1 : Aw.look H 1 = some ⟨24, 1, false, outR 3 (ls.map List.length)⟩) (h2 : Aw.look H 2 = some (clB1 1 ls.length)) (hn : NstIn H 3 (niT ls)) (hb : 3 + ls.length ≤ n') (hp : PinOk g id n') :
    Sub g T H id T' (hp3 B0 ls) n' := by
  refine sub_pid [(0, _), (1, _), (2, _)] ht (fun q hq => ?_) (fun j c hc => ?_) (by rw [niT_len]; exact hb) hp
  · simp only [List.mem_cons, List.mem_nil_iff, or_false] at hq
    rcases hq with rfl | rfl | rfl
    · exact ⟨by rw [hr0]; exact h0, hi0, by show 0 < n'; omega⟩
    · refine ⟨?_, outR_ids _ _ (by rw [List.length_map]; exact hb), by show 1 < n'; omega⟩
      unfold renB
      dsimp only
      rw [outR_id]; exact h1
    · refine ⟨h2, ?_, by show 2 < n'; omega⟩
      show ([[AV.sl 1 0 ls.length]] : List (List AV)).all (idsOkL n') = true
      simp [idsOkL, idsOk, Nat.blt_eq]; omega
  · obtain ⟨hj, e⟩ := niT_get hc
    exact ⟨hn j c hc, by rw [e]⟩
def mtR (A B z : Nat) : Nat := if z = A + 3 then 1000 else if z = B + 3 then 1001 else z
theorem lkE_meE {ls : List (List Int)} {A B base i : Nat} (hi : i < ls.length) : lkE (meE ls A B base) (i + base) = some (if i = A ∨ i = B then none else some ⟨2, 1, true, (ls.getD i []).map inL⟩) := by
  unfold meE
  have : ∀ (l : List Nat), i ∈ l → lkE (l.map fun i => (i + base, if i = A ∨ i = B then none else some (⟨2, 1, true, (ls.getD i []).map inL⟩ : Blk))) (i + base) = some (if i = A ∨ i = B then none else some ⟨2, 1, true, (ls.getD i []).map inL⟩) := by
    intro l
    induction l with
    | nil => intro h; cases h
    | cons a l ih =>
      intro h
      rw [List.map_cons, lkE_cons]
      by_cases e : a = i
      · subst e; rw [if_pos rfl]
      · rw [if_neg (by omega)]
        refine ih ?_
        rcases List.mem_cons.1 h with h | h
        · exact absurd h.symm e
        · exact h
  exact this _ (List.mem_range.2 hi)
theorem lkE_meN {ls : List (List Int)} {A B base z : Nat} (h : z < base ∨ base + ls.length ≤ z) (E : Ef) : lkE (meE ls A B base ++ E) z = lkE E z := by
  unfold meE
  have : ∀ (l : List Nat), (∀ i ∈ l, i < ls.length) → lkE ((l.map fun i => (i + base, if i = A ∨ i = B then none else some (⟨2, 1, true, (ls.getD i []).map inL⟩ : Blk))) ++ E) z = lkE E z := by
    intro l
    induction l with
    | nil => intro _; rfl
    | cons a l ih =>
      intro hl
      rw [List.map_cons, List.cons_append, lkE_cons, if_neg (by have := hl a List.mem_cons_self; omega)]
      exact ih fun i hi => hl i (List.mem_cons_of_mem _ hi)
  exact this _ fun i hi => List.mem_range.1 hi
theorem lkE_app {E E' : Ef} {i : Nat} {ob : Option Blk} (h : lkE E i = some ob) : lkE (E ++ E') i = some ob := by
  induction E with
  | nil => cases h
  | cons p E ih =>
    obtain ⟨a, b⟩ := p
    rw [lkE_cons] at h
    rw [List.cons_append, lkE_cons]
    split
    · rename_i e; rw [if_pos e] at h; exact h
    · rename_i e; rw [if_neg e] at h; exact ih h
theorem outR_mt {ls : List (List Int)} {A B : Nat} (hA : A < ls.length) (hB : B < ls.length) (hne : A ≠ B) (hN : ls.length ≤ 24) :
    (outR 3 ((meetL ls A B).map List.length)).map (renL (mtR A B)) = meO ls A B 1000 1001 3 := by
  have hml := meetL_len ls A B
  have e : meetL ls A B = (ls.set A (ls.getD A [] ++ [(B : Int)])).set B (ls.getD B [] ++ [(A : Int)]) := by
    unfold meetL
    rw [if_pos ⟨by omega, by omega, by omega⟩, Int.toNat_natCast, Int.toNat_natCast]
  unfold meO
  apply List.ext_getElem?
  intro j
  rw [List.getElem?_map, outR_get, List.getElem?_map, e, List.getElem?_set, List.getElem?_set, List.getElem?_set, List.getElem?_set, outR_get, List.length_set, List.length_set, outR_len, List.length_map, List.getElem?_map]
  by_cases h1 : B = j
  · subst h1
    rw [if_pos rfl, if_pos rfl, if_pos hB, if_pos hB]
    simp only [Option.map_some, renL, renA, List.length_append, List.length_singleton]
    rw [show mtR A B (3 + B) = 1001 by unfold mtR; rw [if_neg (by omega), if_pos (by omega)]]
  · rw [if_neg h1, if_neg h1]
    by_cases h2 : A = j
    · subst h2
      rw [if_pos rfl, if_pos rfl, if_pos hA, if_pos hA]
      simp only [Option.map_some, renL, renA, List.length_append, List.length_singleton]
      rw [show mtR A B (3 + A) = 1000 by unfold mtR; rw [if_pos (by omega)]]
    · rw [if_neg h2, if_neg h2]
      cases hj : ls[j]? with
      | none => rfl
      | some l =>
        have := (List.getElem?_eq_some_iff.1 hj).1
        simp only [Option.map_some, renL, renA]
        rw [show mtR A B (3 + j) = 3 + j by unfold mtR; rw [if_neg (by omega), if_neg (by omega)]]
theorem sub_mt {g n' A B : Nat} {T T' : Tp} {B0 : Blk} {ls : List (List Int)} (ht : subT T (mtR A B) n' T') (hA : A < ls.length) (hB : B < ls.length) (hne : A ≠ B) (hN : ls.length ≤ 24) (hr0 : renB (mtR A B) B0 = B0) (hi0 : idsOkB n' B0 = true) (hn : 100 ≤ n') (hp : PinOk g (mtR A B) n') :
    Sub g T (ovr ((1, some ⟨24, 1, false, meO ls A B 1000 1001 3⟩) :: (2, some (clB1 1 ls.length)) :: (meE ls A B 3 ++ [(1000, some ⟨2, 1, true, (ls.getD A [] ++ [(B : Int)]).map inL⟩), (1001, some ⟨2, 1, true, (ls.getD B [] ++ [(A : Int)]).map inL⟩)])) (hp3 B0 ls)) (mtR A B) T' (hp3 B0 (meetL ls A B)) n' := by
  have hml := meetL_len ls A B
  have e : meetL ls A B = (ls.set A (ls.getD A [] ++ [(B : Int)])).set B (ls.getD B [] ++ [(A : Int)]) := by
    unfold meetL
    rw [if_pos ⟨by omega, by omega, by omega⟩, Int.toNat_natCast, Int.toNat_natCast]
  have lo : ∀ z, z < 3 → mtR A B z = z := fun z hz => by unfold mtR; rw [if_neg (by omega), if_neg (by omega)]
  refine sub_pre [(0, _), (1, _), (2, _)] ht (fun q hq => ?_) (fun j c hc => ?_) (by rw [niT_len]; omega) (fun a c ha hc he => ?_) hp
  · simp only [List.mem_cons, List.mem_nil_iff, or_false] at hq
    rcases hq with rfl | rfl | rfl
    · refine ⟨?_, hi0, by dsimp only; omega⟩
      dsimp only
      rw [lo 0 (by omega), hr0, look_ovr, lkE_cons, if_neg (by omega), lkE_cons, if_neg (by omega), lkE_meN (.inl (by omega))]
      rfl
    · refine ⟨?_, outR_ids _ _ (by rw [List.length_map]; omega), by dsimp only; omega⟩
      dsimp only
      rw [lo 1 (by omega), look_ovr, lkE_cons, if_pos rfl]
      unfold renB
      dsimp only
      rw [outR_mt hA hB hne hN]; rfl
    · refine ⟨?_, ?_, by dsimp only; omega⟩
      · dsimp only
        rw [lo 2 (by omega), look_ovr, lkE_cons, if_neg (by omega), lkE_cons, if_pos rfl, hml]
        show some _ = some (Blk.mk _ _ _ [[_]])
        simp only [renA]
        rw [lo 1 (by omega)]; rfl
      · show ([[AV.sl 1 0 (meetL ls A B).length]] : List (List AV)).all (idsOkL n') = true
        simp [idsOkL, idsOk, Nat.blt_eq]; omega
  · have hj := nlt hc
    rw [niT_len, hml] at hj
    obtain ⟨hj2, rfl⟩ := niT_get hc
    refine ⟨?_, rfl⟩
    rw [look_ovr]
    by_cases h1 : B = j
    · subst h1
      rw [show mtR A B (3 + B) = 1001 by unfold mtR; rw [if_neg (by omega), if_pos (by omega)], lkE_cons, if_neg (by omega), lkE_cons, if_neg (by omega), lkE_meN (.inr (by omega))]
      simp only [e, List.getElem_set_self]; rfl
    · by_cases h2 : A = j
      · subst h2
        rw [show mtR A B (3 + A) = 1000 by unfold mtR; rw [if_pos (by omega)], lkE_cons, if_neg (by omega), lkE_cons, if_neg (by omega), lkE_meN (.inr (by omega))]
        simp only [e, List.getElem_set_ne h1, List.getElem_set_self]; rfl
      · rw [show mtR A B (3 + j) = j + 3 by unfold mtR; rw [if_neg (by omega), if_neg (by omega)]; omega, lkE_cons, if_neg (by omega), lkE_cons, if_neg (by omega), lkE_app (lkE_meE hj), if_neg (by omega)]
        simp only [e, List.getElem_set_ne h1, List.getElem_set_ne h2]
        rw [List.getD_eq_getElem?_getD, List.getElem?_eq_getElem hj]; rfl
  · have hb2 : ∀ a, (a ∈ [(0, B0), (1, ⟨24, 1, false, outR 3 ((meetL ls A B).map List.length)⟩), (2, clB1 1 (meetL ls A B).length)].map (fun p : Nat × Blk => p.1) ∨ 3 ≤ a ∧ a < 3 + (niT (meetL ls A B)).length) → a < 3 + ls.length := fun a h => by
      rcases h with h | h
      · simp only [List.map_cons, List.map_nil, List.mem_cons, List.mem_nil_iff, or_false] at h
        omega
      · rw [niT_len, hml] at h; omega
    have h1 := hb2 a ha
    have h2 := hb2 c hc
    unfold mtR at he
    split at he <;> (try split at he) <;> (try split at he) <;> (try split at he) <;> omega
def soF (ls : List (List Int)) (i : Nat) : List (List Int) := (ordL ls).take i ++ ls.drop i
theorem soF_len {ls : List (List Int)} {i : Nat} (h : i ≤ ls.length) : (soF ls i).length = ls.length := by
  unfold soF
  rw [List.length_append, List.length_take, List.length_drop, ordL_len]; omega
theorem soF_zero (ls : List (List Int)) : soF ls 0 = ls := rfl
theorem soF_done (ls : List (List Int)) : soF ls ls.length = ordL ls := by
  unfold soF
  rw [List.drop_eq_nil_of_le (Nat.le_refl _), List.append_nil, List.take_of_length_le (by rw [ordL_len]; exact Nat.le_refl _)]
theorem soF_row {ls : List (List Int)} {i : Nat} (h : i < ls.length) : (soF ls i)[i]? = some ls[i] := by
  unfold soF
  have e : ((ordL ls).take i).length = i := by rw [List.length_take, ordL_len]; omega
  rw [List.getElem?_append_right (by omega), e, Nat.sub_self, List.getElem?_drop, Nat.add_zero, List.getElem?_eq_getElem h]
theorem soF_next {ls : List (List Int)} {i : Nat} (h : i < ls.length) : soF ls (i + 1) = (soF ls i).set i (Lib.compact (So.srt ls[i])) := by
  have e1 : ((ordL ls).take i).length = i := by rw [List.length_take, ordL_len]; omega
  have e2 : (ordL ls)[i]? = some (Lib.compact (So.srt ls[i])) := by unfold ordL; rw [List.getElem?_map, List.getElem?_eq_getElem h]; rfl
  have e3 : ls.drop i = ls[i] :: ls.drop (i + 1) := List.drop_eq_getElem_cons h
  unfold soF
  rw [List.take_add_one, e2, e3, List.set_append_right _ _ (by omega), e1, Nat.sub_self, List.set_cons_zero, List.append_assoc]; rfl
def off1 (ls : List (List Int)) (i : Nat) : Hp := (nst 3 (niT ls)).filter fun p => !Nat.beq p.1 (3 + i)
theorem off1_mem {ls : List (List Int)} {i : Nat} {p : Nat × Blk} (h : p ∈ off1 ls i) : ∃ j, (niT ls)[j]? = some p.2 ∧ p.1 = 3 + j ∧ j ≠ i := by
  obtain ⟨h1, h2⟩ := List.mem_filter.1 h
  obtain ⟨j, g1, g2⟩ := nstM _ _ _ h1
  refine ⟨j, g1, g2, fun e => ?_⟩
  subst e
  rw [g2, Nat.beq_refl] at h2
  simp at h2
theorem off1_at {ls : List (List Int)} {i j : Nat} (h1 : j ≠ i) : Aw.look (off1 ls i) (3 + j) = (niT ls)[j]? := by
  unfold off1
  rw [look_fil (fun z => !Nat.beq z (3 + i)) (3 + j) (by
    cases hb : Nat.beq (3 + j) (3 + i) with
    | false => rfl
    | true => have := Nat.eq_of_beq_eq_true hb; omega), look_nst_at]
theorem sub_off {T T' : Tp} {B0 : Blk} {ls : List (List Int)} {l : List Int} {i : Nat} (ht : subT T (mv 500 (3 + i)) 1000 T') (hl : ls[i]? = some l) (hN : ls.length ≤ 24) (hr0 : ∀ ρ, renB ρ B0 = B0) (hi0 : idsOkB 1000 B0 = true) :
    Sub 0 T (hp3 B0 ls) (mv 500 (3 + i)) T' ([(0, B0), (1, ⟨24, 1, false, (outR 3 (ls.map List.length)).set i [.sl 500 0 l.length]⟩), (2, clB1 1 ls.length), (500, ⟨2, 1, true, l.map inL⟩)] ++ off1 ls i) 1000 := by
  have hi : i < ls.length := (List.getElem?_eq_some_iff.1 hl).1
  refine ⟨ht, subH_of _ fun p hp => ?_, injB_of fun a ha c hc he => ?_, pin_0⟩
  · rcases List.mem_append.1 hp with hp | hp
    · simp only [List.mem_cons, List.mem_nil_iff, or_false] at hp
      rcases hp with rfl | rfl | rfl | rfl
      · exact ⟨by rw [hr0]; rfl, hi0, by dsimp only; omega⟩
      · refine ⟨?_, ?_, by dsimp only; omega⟩
        · show some _ = some (Blk.mk _ _ _ (List.map (renL (mv 500 (3 + i))) _))
          have e : ((outR 3 (ls.map List.length)).set i [.sl 500 0 l.length]).map (renL (mv 500 (3 + i))) = outR 3 (ls.map List.length) := by
            apply List.ext_getElem?
            intro j
            rw [List.getElem?_map, List.getElem?_set, outR_len, List.length_map, outR_get, List.getElem?_map]
            by_cases h2 : i = j
            · subst h2
              rw [if_pos rfl, if_pos hi, hl]
              simp [renL, renA, mv]
            · rw [if_neg h2]
              cases hj : ls[j]? with
              | none => rfl
              | some m =>
                have := (List.getElem?_eq_some_iff.1 hj).1
                simp only [Option.map_some, renL, renA]
                rw [show mv 500 (3 + i) (3 + j) = 3 + j by unfold mv; rw [if_neg (by omega)]]
          rw [e]
        · show List.all _ (idsOkL 1000) = true
          rw [List.all_eq_true]
          intro r hr
          rcases List.mem_or_eq_of_mem_set hr with hr | rfl
          · exact List.all_eq_true.1 (outR_ids _ _ (by rw [List.length_map]; omega)) r hr
          · rfl
      · exact ⟨rfl, rfl, by dsimp only; omega⟩
      · refine ⟨?_, rfl, by dsimp only; omega⟩
        show Aw.look ((0, _) :: (1, _) :: (2, _) :: nst 3 (niT ls)) (3 + i) = some _
        rw [look_cons, if_neg (by omega), look_cons, if_neg (by omega), look_cons, if_neg (by omega), look_nst_at, niT, List.getElem?_map, hl]; rfl
    · obtain ⟨j, g1, g2, _⟩ := off1_mem hp
      have hj := nlt g1
      rw [niT_len] at hj
      obtain ⟨z, b⟩ := p
      dsimp only at g1 g2 ⊢
      subst g2
      obtain ⟨hj2, rfl⟩ := niT_get g1
      refine ⟨?_, rfl, by omega⟩
      rw [show mv 500 (3 + i) (3 + j) = 3 + j by unfold mv; rw [if_neg (by omega)]]
      show Aw.look ((0, _) :: (1, _) :: (2, _) :: nst 3 (niT ls)) (3 + j) = _
      rw [look_cons, if_neg (by omega), look_cons, if_neg (by omega), look_cons, if_neg (by omega), look_nst_at]; exact g1
  · have key : ∀ a, a ∈ List.map (fun p : Nat × Blk => p.1) ([(0, B0), (1, (⟨24, 1, false, (outR 3 (ls.map List.length)).set i [.sl 500 0 l.length]⟩ : Blk)), (2, clB1 1 ls.length), (500, ⟨2, 1, true, l.map inL⟩)] ++ off1 ls i) → a = 500 ∨ (a < 3 + ls.length ∧ a ≠ 3 + i) := fun a ha => by
      rw [List.map_append, List.mem_append] at ha
      rcases ha with ha | ha
      · simp only [List.map_cons, List.map_nil, List.mem_cons, List.mem_nil_iff, or_false] at ha
        omega
      · obtain ⟨p, hp, rfl⟩ := List.mem_map.1 ha
        obtain ⟨j, g1, g2, _⟩ := off1_mem hp
        have hj := nlt g1
        rw [niT_len] at hj
        omega
    have ka := key a ha
    have kc := key c hc
    unfold mv at he
    split at he <;> (try split at he) <;> omega
end Go.Proofs.Ytljpgbgokjiamaa.St

namespace Go.Proofs.Ytljpgbgokjiamaa.St
open Go Go.RowKit Go.Proofs.Ytljpgbgokjiamaa.Aw Go.Proofs.Ytljpgbgokjiamaa.In Go.Proofs.Ytljpgbgokjiamaa.Il Go.Proofs.Ytljpgbgokjiamaa.Sr Go.Proofs.Ytljpgbgokjiamaa.Nb
set_option linter.unusedSimpArgs false
set_option linter.unusedVariables false
attribute [local irreducible] AW SQ Step RO RC DE Thn InB
def boxR (r : Ras) : Blk := ⟨26, 5, false, [[.v (.int .i64 r.st), .v (.int .i64 r.wd), .v (.int .i64 r.ht), .dsl 1 (r.sv.map inL), .dsl 1 (r.lv.map inL)]]⟩
theorem hp3_in {B0 : Blk} {ls : List (List Int)} : NstIn (hp3 B0 ls) 3 (niT ls) := .cons (by omega) (.cons (by omega) (.cons (by omega) .here'))
theorem fz_nstB {H : Hp} {k len B : Nat} {ty ity : TypeId} {Ls : List (List (List AV))} {rows : List (List AV)} (hl : Aw.look H k = some ⟨ty, 1, false, outR B (Ls.map List.length)⟩) (hn : NstIn H B (Ls.map (blkR ity))) (he : len = Ls.length) (hr : (Ls.map fun rows => [.dsl 1 rows]) = rows) : Fz H (.sl k 0 len) (.dsl 1 rows) := by
  subst he hr
  refine fun _ _ _ _ _ _ _ hrel hv => fz_vr hrel 2 _ _ _ ?_ hv
  have hlen := outR_len (Ls.map List.length) B
  rw [List.length_map] at hlen
  rw [fz, hl]
  simp only [Nat.zero_add, List.drop_zero]
  rw [if_pos (by omega), List.take_of_length_le (by omega), if_neg (by simp), fz_outR Ls B hn]
  rfl
theorem fz_n3 {B0 : Blk} {ls : List (List Int)} {m : Nat} (hn : NstIn (hp3 B0 ls) 3 (niT ls)) (hm : m = ls.length) : Fz (hp3 B0 ls) (.sl 1 0 m) (.dsl 1 (nbL ls)) := by
  refine fz_nstB (ty := 24) (ity := 2) (B := 3) (Ls := ls.map fun l => l.map inL) ?_ ?_ (by rw [List.length_map]; exact hm) ?_
  · rw [List.map_map]
    have : (List.length ∘ fun l => List.map inL l) = List.length := by funext l; simp
    rw [this]; rfl
  · rw [List.map_map]; exact hn
  · rw [List.map_map]; rfl
theorem subE_nst {H : Hp} : ∀ (bs : List Blk) (base : Nat), NstIn H base bs → subE H (nst base bs)
  | [], _, _ => trivial
  | b :: bs, base, h => ⟨h 0 b rfl, subE_nst bs (base + 1) fun j c hc => by
      have := h (j + 1) c (by simpa using hc)
      rwa [show base + (j + 1) = base + 1 + j by omega] at this⟩
theorem q_meet {N Nn m d : Nat} {all : Array Oper} {G : Tp → Hp → Nat → Prop} {T : Tp} {B0 : Blk} {ls : List (List Int)} {a b : Int} {f : Operand} {xs : Array Operand} {ts : Array TypeId} {ty : TypeId} {pos : String} {after : Array Edge}
    (hd : Nat.blt d N = true) (hf : evalA T f = some (.fn 34 [.ptr 2 0 0])) (ha : evalL T xs.toList = some [.v (.int .i64 a), .v (.int .i64 b)]) (hA : AdS Nn m ls) (ha1 : a < Nn) (hb1 : b < Nn) (hN : Nn ≤ 24) (hm : m ≤ 1048576) (hr0 : ∀ ρ, renB ρ B0 = B0) (hi0 : idsOkB 1000 B0 = true)
    (h : ∀ H1 ρ n1, (∀ z, z < 3 → ρ z = z) → (∀ T2 T', subT T2 ρ 1000 T' → Sub 0 T2 H1 ρ T' (hp3 B0 (meetL ls a b)) 1000) → SQ Try.prog N all [] G ((d, .tup []) :: T) H1 n1) :
    SQ Try.prog N all [⟨some d, .call { callee := .value f, args := xs, argTypes := ts }, ty, pos, after, none⟩] G T (hp3 B0 ls) 1000 := by
  have hlen := hA.ok.n
  have hS := hA.nbS hN hm
  by_cases hc : 0 ≤ a ∧ 0 ≤ b ∧ a ≠ b
  · obtain ⟨A, rfl⟩ : ∃ A : Nat, a = A := ⟨a.toNat, by omega⟩
    obtain ⟨B, rfl⟩ : ∃ B : Nat, b = B := ⟨b.toNat, by omega⟩
    refine q_callC (dst := some d) hd hf ha (meetYes_rc ls hS A B (by omega) (by omega) (by omega) (by omega) 1000) ⟨rfl, rfl, subE_nst _ _ hp3_in⟩ ?_
    refine h _ (mtR A B) _ (fun z hz => by unfold mtR; rw [if_neg (by omega), if_neg (by omega)]) fun T2 T' hT => ?_
    exact sub_mt hT (by omega) (by omega) (by omega) (by omega) (hr0 _) hi0 (by omega) pin_0
  · have e : meetL ls a b = ls := by unfold meetL; rw [if_neg hc]
    rw [e] at h
    refine q_callU hd hf ha (FzL.cons (Fz.of rfl) (FzL.cons (Fz.of rfl) (FzL.cons (Fz.ptrL (cs' := [.dsl 1 (nbL ls)]) rfl rfl (FzL.cons (fz_n3 hp3_in rfl) FzL.nil)) FzL.nil))) (meetNo_ro a b [.dsl 1 (nbL ls)] hc 1000) ?_
    refine h _ id _ (fun z hz => rfl) fun T2 T' hT => ?_
    exact sub_h3 hT rfl (hr0 _) hi0 rfl rfl hp3_in (by omega) pin_0
set_option maxHeartbeats 4000000 in
theorem Adjacent_ro (r : Ras) (hs : r.sm) (hok : okR r = true) (k : Nat) :
    RO Try.prog 13 [.agg (rasL r)] k (.tup [.sl k 0 (svN r).toNat, .v (.int .i64 0)]) ((k, niB k (ordL (adF r r.sv.length))) :: nst (k + 1) (niT (ordL (adF r r.sv.length)))) (k + 1000) := by
  have hV := ValidRaster_ro r hs
  rw [hok] at hV
  have hC := servers_ro r hok
  obtain ⟨v1, v2, v3⟩ := svN_bd hok
  obtain ⟨_, hwd, _, hn, n1, n2, n3, n4, n5⟩ := ok_nums hok
  have hfin := (adF_ok hok r.sv.length (Nat.le_refl _)).ok.n
  have hol := ordL_len (adF r r.sv.length)
  obtain ⟨N, hN⟩ : ∃ N : Nat, svN r = N := ⟨(svN r).toNat, by omega⟩
  have hNt : (svN r).toNat = N := by omega
  rw [hN] at hC v1 v2 v3
  rw [hNt] at hfin ⊢
  have hAF := fun i hi => adF_ok hok i hi
  rw [hNt] at hAF
  have h00 : adF r 0 = List.replicate N [] := by unfold adF; rw [hNt]
  refine RO.wide (n' := k + ((ordL (adF r r.sv.length)).length + 1)) (RO.ofm (.tup [.sl 0 0 N, .v (.int .i64 0)]) ((0, niB 0 (ordL (adF r r.sv.length))) :: nst 1 (niT (ordL (adF r r.sv.length)))) ((ordL (adF r r.sv.length)).length + 1) Try.func13 Try.ntmps13 rfl (goFn_of Try.func13 rfl (by kernel_rfl)) rfl rfl (by simp [renA, renL]) (shH_ni k _) (full_ni _) ?_) (by omega)
  generalize hrow0 : rasL r = row0 at *
  have hrow : row0 = [.v (.int .i64 r.st), .v (.int .i64 r.wd), .v (.int .i64 r.ht), .dsl 1 (r.sv.map inL), .dsl 1 (r.lv.map inL)] := hrow0.symm
  subst hrow
  ((repeat' (first
    | (show SQ _ _ _ _ _ _ _ _; first | apply sq_nil | (apply q_move; exact rfl; exact rfl) | (apply q_assign; exact rfl; exact rfl) | (apply q_fieldAddr; exact rfl; exact rfl; exact (ty rfl); exact rfl; exact rfl; exact rfl; exact rfl) | (apply q_not; exact rfl; exact rfl) | (apply q_lend; exact rfl; exact rfl; exact (ty rfl); exact rfl) | (apply q_ld1p; exact rfl; exact rfl; exact (ty rfl); exact rfl; exact rfl; exact (by first | rfl | assumption | ((try simp only [Nat.zero_add]); refine List.getElem?_set_self ?_; (try simp only [List.length_set]); assumption)); exact rfl) | (apply q_mkf; exact rfl; exact rfl))
    | (show SQ _ _ _ _ _ _ _ _; (first | (apply q_ldap; exact rfl; exact rfl; exact (ty rfl); exact rfl; exact rfl; exact (by first | rfl | assumption | ((try simp only [Nat.zero_add]); refine List.getElem?_set_self ?_; (try simp only [List.length_set]); assumption)); exact rfl) | (apply q_box; exact rfl; exact rfl; exact rfl) | (apply q_alloc; exact rfl; exact (ty rfl); exact rfl; exact rfl) | (apply q_store; exact rfl; exact rfl; exact (ty rfl); exact rfl; exact (by first | rfl | assumption | ((try simp only [Nat.zero_add]); refine List.getElem?_set_self ?_; (try simp only [List.length_set]); assumption)); exact rfl; exact rfl; exact rfl) | (apply q_mks; exact rfl; exact rfl; exact rfl; exact (ty rfl); exact rfl; exact (by first | omega | (simp; done) | (simp; omega)); exact (by first | omega | (simp; done) | (simp; omega)); exact (by first | omega | (simp; done) | (simp; omega)); exact (by first | omega | (simp; done) | (simp; omega)); exact rfl; exact rfl) | (apply q_callU; exact rfl; exact rfl; exact rfl; exact FzL.of rfl; exact hV _) | (apply q_callU; exact rfl; exact rfl; exact rfl; exact FzL.of rfl; exact hC _)); (try simp only [put, rowsOf, plR, List.all_cons, selE, ovr, setH, del, cellsA, splice, isV, List.nil_append, List.cons_append, List.map_cons, List.map_nil, List.length_cons, List.length_nil, List.set_cons_zero, List.set_cons_succ, List.take_succ_cons, List.take_zero, List.take_nil, List.drop_succ_cons, List.drop_zero, List.drop_nil, List.append_nil, List.all_cons, List.all_nil, Bool.and_true, Bool.true_and, Bool.and_false, Bool.false_and, Nat.reduceAdd, Nat.zero_add, Nat.add_zero, Nat.reduceEqDiff, if_true, if_false, reduceIte]))
    | (show AW _ _ _ _ _ _ _ _; first | refine aw_region ?_ | (refine aw_seqk ?_; intro K hK) | refine aw_block ?_ | (apply aw_cond_f; exact rfl; exact rfl) | refine aw_skip ?_)
    | refine thn_n ?_
    | (refine hK _ _ _ ?_; clear hK K))); all_goals (repeat (clear hK K)))
  have l1 : (r.sv.map inL).length = r.sv.length := List.length_map _
  refine aw_unpl 1 rfl ?_
  refine aw_nils 1 3 N 2 (by omega) N 0 _ (by omega) rfl (fun j b hb => by simp at hb) fun H' e1 e2 e3 => ?_
  have e0 : Aw.look H' 0 = some (boxR r) := (e3 0 (by omega) (by omega)).trans rfl
  have e4 : Aw.look H' 2 = some (clB1 1 N) := (e3 2 (by omega) (by omega)).trans rfl
  clear e3
  refine aw_loop (ρ := id) (ι := Nat) (fun i => ([(20, .v (.int .i64 (i : Int))), (19, .v (.int .i64 (r.sv.length : Int))), (18, .dsl 1 (r.sv.map inL)), (5, .fn 34 [.ptr 2 0 0]), (4, .ptr 2 0 0), (1, .ptr 0 0 0), (3, .v (.int .i64 0))], hp3 (boxR r) (adF r i), 1000))
    (fun i => i ≤ r.sv.length) (fun i => r.sv.length - i) 0 (Nat.zero_le _) ?_ ?_
  · refine sub_h3 ⟨lk_i rfl rfl, lk_i rfl (by rw [l1]), lk_d rfl rfl, lk_f rfl rfl rfl, lk_r rfl rfl rfl, lk_r rfl rfl rfl, lk_i rfl rfl, trivial⟩ e0 rfl rfl ?_ (by rw [h00, List.length_replicate]; exact e4) (fun j c hc => ?_) (by rw [h00, List.length_replicate]; dsimp only; omega) pin_0
    · rw [e1, h00, nlR, Nat.sub_self, List.replicate_zero, List.append_nil, List.map_replicate]; rfl
    · rw [h00] at hc
      obtain ⟨hj, rfl⟩ := niT_get hc
      rw [List.length_replicate] at hj
      rw [e2 j ⟨2, 1, true, []⟩ (by rw [List.getElem?_replicate, if_pos hj]), List.getElem_replicate]; rfl
  intro i hi
  dsimp only
  have hA := hAF i hi
  by_cases c1 : i < r.sv.length
  · have b1 : decide ((i : Int) < (r.sv.length : Int)) = true := by simpa using c1
    have hr1 := inL_get c1
    have hw : IntKind.i64.wrap ((i : Int) + 1) = ((i + 1 : Nat) : Int) := by rw [IntWalk.i64_in _ (by omega)]; omega
    ((repeat' (first
    | (show SQ _ _ _ _ _ _ _ _; first | apply sq_nil | (apply q_move; exact rfl; exact rfl) | (apply q_assign; exact rfl; exact rfl) | (apply q_fieldAddr; exact rfl; exact rfl; exact (ty rfl); exact rfl; exact rfl; exact rfl; exact rfl) | (apply q_add; exact rfl; exact rfl; exact rfl) | (apply q_rem; exact rfl; exact rfl; exact rfl; exact (by first | decide | omega)) | (apply q_neq; exact rfl; exact rfl; exact rfl) | (apply q_lss; exact rfl; exact rfl; exact rfl) | (apply q_ixd; exact rfl; exact rfl; exact rfl; exact (ty rfl); exact rfl; exact (by first | omega | (simp; done) | (simp; omega)); exact (by first | omega | (simp; done) | (simp; omega)); exact (by first | rfl | assumption)) | (apply q_ld1d; exact rfl; exact rfl; exact (ty rfl); exact rfl; exact rfl) | (apply q_ld1p; exact rfl; exact rfl; exact (ty rfl); exact rfl; exact rfl; exact (by first | rfl | assumption | ((try simp only [Nat.zero_add]); refine List.getElem?_set_self ?_; (try simp only [List.length_set]); assumption)); exact rfl))
    | (show AW _ _ _ _ _ _ _ _; first | refine aw_region ?_ | (refine aw_seqk ?_; intro K hK) | refine aw_block ?_ | (apply aw_cond_t; exact rfl; exact (by assumption)) | refine aw_skip ?_)
    | refine thn_n ?_
    | (refine hK _ _ _ ?_; clear hK K))); all_goals (repeat (clear hK K)))
    have hD := (adR_ok hok (m := 2 * i) (ls := adF r i) (by rw [hNt]; exact hA) c1)
    rw [hNt] at hD
    have h24 := hA.ok.n
    refine aw_cutK hK [(6, .v (.int .i64 (i : Int))), (7, .v (.int .i64 r.sv[i])), (20, .v (.int .i64 (i : Int))), (19, .v (.int .i64 (r.sv.length : Int))), (18, .dsl 1 (r.sv.map inL)), (5, .fn 34 [.ptr 2 0 0]), (4, .ptr 2 0 0), (1, .ptr 0 0 0), (3, .v (.int .i64 0))] (hp3 (boxR r) (adR r (adF r i) i)) 1000 ?_ ?_
    · have hg0 : r.sv.getD i 0 = r.sv[i] := getD_at c1
      have hadr : adR r (adF r i) i = if ((IntKind.i64.wrap ((i : Int) + 1)).tmod r.wd != 0) = true then meetL (adF r i) r.sv[i] (r.sv.getD (i + 1) 0) else adF r i := by unfold adR; rw [IntWalk.i64_in _ (by omega), hg0]
      rw [hadr]
      clear hadr hD
      cases hc : ((IntKind.i64.wrap ((i : Int) + 1)).tmod r.wd != 0) with
      | false =>
        rw [if_neg (by decide)]
        ((repeat' (first
    | (show AW _ _ _ _ _ _ _ _; first | (apply aw_cond_f; exact rfl; exact rfl) | refine aw_skip ?_)
    | refine thn_n ?_)); all_goals (repeat (clear hK K)))
        exact ⟨id, sub_h3 ⟨lk_i rfl rfl, lk_i rfl rfl, lk_i rfl rfl, lk_i rfl rfl, lk_d rfl rfl, lk_f rfl rfl rfl, lk_r rfl rfl rfl, lk_r rfl rfl rfl, lk_i rfl rfl, trivial⟩ rfl rfl rfl rfl rfl hp3_in (by omega) pin_0⟩
      | true =>
        rw [if_pos rfl]
        have hlt : (i : Int) + 1 < r.sv.length := last_row (i := (i : Int)) (by omega) hn (by omega) (by omega) (by rw [IntWalk.i64_in _ (by omega)] at hc; simpa using hc)
        have c2 : i + 1 < r.sv.length := by omega
        have hr2 : (r.sv.map inL)[(IntKind.i64.wrap ((i : Int) + 1)).toNat]? = some [.v (.int .i64 r.sv[i + 1])] := by rw [hw]; exact inL_get c2
        have hg1 : r.sv.getD (i + 1) 0 = r.sv[i + 1] := getD_at c2
        rw [hg1]
        ((repeat' (first
    | (show SQ _ _ _ _ _ _ _ _; first | (apply q_move; exact rfl; exact rfl) | (apply q_fieldAddr; exact rfl; exact rfl; exact (ty rfl); exact rfl; exact rfl; exact rfl; exact rfl) | (apply q_add; exact rfl; exact rfl; exact rfl) | (apply q_ixd; exact rfl; exact rfl; exact rfl; exact (ty rfl); exact rfl; exact (by first | omega | (simp; done) | (simp; omega)); exact (by first | omega | (simp; done) | (simp; omega)); exact (by first | rfl | assumption)) | (apply q_ld1d; exact rfl; exact rfl; exact (ty rfl); exact rfl; exact rfl) | (apply q_ld1p; exact rfl; exact rfl; exact (ty rfl); exact rfl; exact rfl; exact (by first | rfl | assumption | ((try simp only [Nat.zero_add]); refine List.getElem?_set_self ?_; (try simp only [List.length_set]); assumption)); exact rfl))
    | (show AW _ _ _ _ _ _ _ _; first | refine aw_region ?_ | (apply aw_cond_t; exact rfl; exact rfl)))); all_goals (repeat (clear hK K)))
        have a1 := v3 i c1
        have a2 := v3 (i + 1) c2
        rw [hg0] at a1
        rw [hg1] at a2
        generalize r.sv[i] = a at *
        generalize r.sv[i + 1] = b at *
        generalize adF r i = ls at *
        refine q_meet rfl rfl rfl hA a1 a2 (by omega) (by omega) (fun _ => rfl) rfl fun H1 ρ n1 hρ hsub => ?_
        ((repeat' (first
    | (show SQ _ _ _ _ _ _ _ _; first | apply sq_nil)
    | refine thn_n ?_)); all_goals (repeat (clear hK K)))
        exact ⟨ρ, hsub _ _ ⟨lk_i rfl rfl, lk_i rfl rfl, lk_i rfl rfl, lk_i rfl rfl, lk_d rfl rfl, lk_f rfl (by simp only [renL, renA]; rw [hρ 2 (by omega)]) rfl, lk_r rfl (hρ 2 (by omega)).symm rfl, lk_r rfl (hρ 0 (by omega)).symm rfl, lk_i rfl rfl, trivial⟩⟩
    · have hE := (adD_ok hok (m := 2 * i + 1) (ls := adR r (adF r i) i) (by rw [hNt]; exact hD) c1)
      rw [hNt] at hE
      have hsucc : adF r (i + 1) = adD r (adR r (adF r i) i) i := rfl
      have hlen := hD.ok.n
      generalize adR r (adF r i) i = ls at *
      ((repeat' (first
    | (show SQ _ _ _ _ _ _ _ _; first | apply sq_nil | (apply q_move; exact rfl; exact rfl) | (apply q_fieldAddr; exact rfl; exact rfl; exact (ty rfl); exact rfl; exact rfl; exact rfl; exact rfl) | (apply q_lend; exact rfl; exact rfl; exact (ty rfl); exact rfl) | (apply q_add; exact rfl; exact rfl; exact rfl) | (apply q_lss; exact rfl; exact rfl; exact rfl) | (apply q_ld1p; exact rfl; exact rfl; exact (ty rfl); exact rfl; exact rfl; exact (by first | rfl | assumption | ((try simp only [Nat.zero_add]); refine List.getElem?_set_self ?_; (try simp only [List.length_set]); assumption)); exact rfl))
    | (show AW _ _ _ _ _ _ _ _; first | refine aw_region ?_ | (refine aw_seqk ?_; intro K hK))
    | refine thn_n ?_
    | (refine hK _ _ _ ?_; clear hK K))); all_goals (repeat (clear hK K)))
      have hg0 : r.sv.getD i 0 = r.sv[i] := getD_at c1
      have hww : IntKind.i64.wrap ((i : Int) + r.wd) = (i : Int) + r.wd := IntWalk.i64_in _ (by omega)
      have hlE := hE.ok.n
      rw [← hsucc] at hlE
      by_cases hc : (i : Int) + r.wd < r.sv.length
      · have c3 : i + r.wd.toNat < r.sv.length := by omega
        have b3 : decide (IntKind.i64.wrap ((i : Int) + r.wd) < ((r.sv.map inL).length : Int)) = true := by rw [hww, l1]; simpa using hc
        have hr2 : (r.sv.map inL)[(IntKind.i64.wrap ((i : Int) + r.wd)).toNat]? = some [.v (.int .i64 r.sv[i + r.wd.toNat])] := by
          rw [hww, show ((i : Int) + r.wd).toNat = i + r.wd.toNat by omega]
          simp [inL, c3]
        have hg1 : r.sv.getD (i + r.wd.toNat) 0 = r.sv[i + r.wd.toNat] := getD_at c3
        have e : adD r ls i = meetL ls r.sv[i] r.sv[i + r.wd.toNat] := by unfold adD; rw [if_pos hc, hg0, hg1]
        rw [← hsucc] at e
        have a1 := v3 i c1
        have a2 := v3 (i + r.wd.toNat) c3
        rw [hg0] at a1
        rw [hg1] at a2
        generalize r.sv[i] = a at *
        generalize r.sv[i + r.wd.toNat] = b at *
        ((repeat' (first
    | (show SQ _ _ _ _ _ _ _ _; first | (apply q_move; exact rfl; exact rfl) | (apply q_fieldAddr; exact rfl; exact rfl; exact (ty rfl); exact rfl; exact rfl; exact rfl; exact rfl) | (apply q_add; exact rfl; exact rfl; exact rfl) | (apply q_ixd; exact rfl; exact rfl; exact rfl; exact (ty rfl); exact rfl; exact (by first | omega | (simp; done) | (simp; omega)); exact (by first | omega | (simp; done) | (simp; omega)); exact (by first | rfl | assumption)) | (apply q_ld1d; exact rfl; exact rfl; exact (ty rfl); exact rfl; exact rfl) | (apply q_ld1p; exact rfl; exact rfl; exact (ty rfl); exact rfl; exact rfl; exact (by first | rfl | assumption | ((try simp only [Nat.zero_add]); refine List.getElem?_set_self ?_; (try simp only [List.length_set]); assumption)); exact rfl))
    | (show AW _ _ _ _ _ _ _ _; first | refine aw_region ?_ | (apply aw_cond_t; exact rfl; exact (by assumption))))); all_goals (repeat (clear hK K)))
        refine q_meet rfl rfl rfl hD a1 a2 (by omega) (by omega) (fun _ => rfl) rfl fun H1 ρ n1 hρ hsub => ?_
        ((repeat' (first
    | (show SQ _ _ _ _ _ _ _ _; first | apply sq_nil | (apply q_move; exact rfl; exact rfl) | (apply q_add; exact rfl; exact rfl; exact rfl))
    | (show AW _ _ _ _ _ _ _ _; first | refine aw_region ?_)
    | refine thn_n ?_
    | (refine hK _ _ _ ?_; clear hK K)
    | refine inb_n ?_)); all_goals (repeat (clear hK K)))
        refine ⟨i + 1, ρ, c1, by omega, ?_⟩
        (try dsimp only)
        rw [e]
        exact hsub _ _ ⟨lk_i rfl hw, lk_i rfl rfl, lk_d rfl rfl, lk_f rfl (by simp only [renL, renA]; rw [hρ 2 (by omega)]) rfl, lk_r rfl (hρ 2 (by omega)).symm rfl, lk_r rfl (hρ 0 (by omega)).symm rfl, lk_i rfl rfl, trivial⟩
      · have b3 : decide (IntKind.i64.wrap ((i : Int) + r.wd) < ((r.sv.map inL).length : Int)) = false := by rw [hww, l1]; simpa using hc
        have e : adD r ls i = ls := by unfold adD; rw [if_neg hc]
        rw [← hsucc] at e
        ((repeat' (first
    | (show SQ _ _ _ _ _ _ _ _; first | apply sq_nil | (apply q_move; exact rfl; exact rfl) | (apply q_add; exact rfl; exact rfl; exact rfl))
    | (show AW _ _ _ _ _ _ _ _; first | refine aw_region ?_ | (apply aw_cond_f; exact rfl; exact (by assumption)) | refine aw_skip ?_)
    | refine thn_n ?_
    | (refine hK _ _ _ ?_; clear hK K)
    | refine inb_n ?_)); all_goals (repeat (clear hK K)))
        refine ⟨i + 1, id, c1, by omega, ?_⟩
        (try dsimp only)
        rw [e]
        exact sub_h3 ⟨lk_i rfl hw, lk_i rfl rfl, lk_d rfl rfl, lk_f rfl rfl rfl, lk_r rfl rfl rfl, lk_r rfl rfl rfl, lk_i rfl rfl, trivial⟩ rfl rfl rfl rfl rfl hp3_in (by (try dsimp only); omega) pin_0
  · have b1 : decide ((i : Int) < (r.sv.length : Int)) = false := by simpa using c1
    obtain rfl : i = r.sv.length := by omega
    generalize adF r r.sv.length = ls at *
    ((repeat' (first
    | (show SQ _ _ _ _ _ _ _ _; first | apply sq_nil | (apply q_move; exact rfl; exact rfl) | (apply q_lenl; exact rfl; exact rfl; exact (ty rfl); exact rfl) | (apply q_lss; exact rfl; exact rfl; exact rfl) | (apply q_ld1p; exact rfl; exact rfl; exact (ty rfl); exact rfl; exact rfl; exact (by first | rfl | assumption | ((try simp only [Nat.zero_add]); refine List.getElem?_set_self ?_; (try simp only [List.length_set]); assumption)); exact rfl))
    | (show AW _ _ _ _ _ _ _ _; first | refine aw_region ?_ | (refine aw_seqk ?_; intro K hK) | refine aw_block ?_ | (apply aw_cond_f; exact rfl; exact (by assumption)) | refine aw_exit ?_)
    | refine thn_n ?_
    | (refine hK _ _ _ ?_; clear hK K)
    | refine thn_e ?_
    | refine inb_same ?_
    | (clear hK K; refine hK _ _ _ ?_; clear hK K))); all_goals (repeat (clear hK K)))
    have hm : ∀ l ∈ ls, l.length ≤ 1048576 := (hA.nbS (by omega) (by omega)).m
    refine aw_loop (ρ := id) (ι := Nat) (fun i => ([(62, .v (.int .i64 (i : Int))), (61, .v (.int .i64 (N : Int))), (60, .sl 1 0 N), (4, .ptr 2 0 0), (3, .v (.int .i64 0))], hp3 (boxR r) (soF ls i), 1000))
      (fun i => i ≤ N) (fun i => N - i) 0 (Nat.zero_le _) ?_ ?_
    · rw [soF_zero]
      exact sub_h3 ⟨lk_i rfl rfl, lk_i rfl (by rw [hfin]), lk_s rfl rfl hfin rfl, lk_r rfl rfl rfl, lk_i rfl rfl, trivial⟩ rfl rfl rfl rfl rfl hp3_in (by (try dsimp only); omega) pin_0
    intro j hj
    dsimp only
    by_cases d1 : j < N
    · have e1 : decide ((j : Int) < (N : Int)) = true := by simpa using d1
      have hwj : IntKind.i64.wrap ((j : Int) + 1) = ((j + 1 : Nat) : Int) := by rw [IntWalk.i64_in _ (by omega)]; omega
      have hlj : j < ls.length := by omega
      have hnx := soF_next hlj
      have hrow := soF_row hlj
      have hlen := soF_len (ls := ls) (i := j) (by omega)
      have hml := hm _ (List.getElem_mem hlj)
      generalize soF ls j = cur at *
      generalize ls[j] = l at *
      refine aw_weak (sub_off (T' := [(62, .v (.int .i64 (j : Int))), (61, .v (.int .i64 (N : Int))), (60, .sl 1 0 N), (4, .ptr 2 0 0), (3, .v (.int .i64 0))]) ⟨lk_i rfl rfl, lk_i rfl rfl, lk_s rfl rfl rfl rfl, lk_r rfl rfl rfl, lk_i rfl rfl, trivial⟩ hrow (by omega) (fun _ => rfl) rfl) ?_
      have hsl : ((outR 3 (cur.map List.length)).set j [.sl 500 0 l.length]).length = N := by rw [List.length_set, outR_len, List.length_map]; omega
      have hro : ((outR 3 (cur.map List.length)).set j [.sl 500 0 l.length])[0 + ((j : Int)).toNat]? = some [.sl 500 0 l.length] := by
        rw [Nat.zero_add, Int.toNat_natCast, List.getElem?_set_self (by rw [outR_len, List.length_map]; omega)]
      have hSo := So.Sort_rc 500 l hml
      have hsrt := So.srt_len l
      have hCo := So.Compact_rc 500 (So.srt l) (by omega)
      rw [hsrt] at hCo
      generalize hoff : off1 cur j = rest at *
      generalize hR : (outR 3 (cur.map List.length)).set j [.sl 500 0 l.length] = R at *
      unfold clB1 boxR
      dsimp only [List.cons_append, List.nil_append]
      ((repeat' (first
    | (show SQ _ _ _ _ _ _ _ _; first | apply sq_nil | (apply q_move; exact rfl; exact rfl) | (apply q_assign; exact rfl; exact rfl) | (apply q_add; exact rfl; exact rfl; exact rfl) | (apply q_lss; exact rfl; exact rfl; exact rfl) | (apply q_ixl; exact rfl; exact rfl; exact rfl; exact (ty rfl); exact rfl; exact rfl; exact rfl; exact (by first | omega | (simp; done) | (simp; omega)); exact (by first | omega | (simp; done) | (simp; omega))) | (apply q_ld1p; exact rfl; exact rfl; exact (ty rfl); exact rfl; exact rfl; exact (by first | rfl | assumption | ((try simp only [Nat.zero_add]); refine List.getElem?_set_self ?_; (try simp only [List.length_set]); assumption)); exact rfl))
    | (show SQ _ _ _ _ _ _ _ _; (first | (apply q_callC; exact rfl; exact rfl; exact rfl; exact hSo _; (focus ((repeat (first | exact trivial | refine ⟨by first | exact rfl | assumption, ?_⟩)); done)); skip)); (try simp only [put, rowsOf, plR, List.all_cons, selE, ovr, setH, del, cellsA, splice, isV, List.nil_append, List.cons_append, List.map_cons, List.map_nil, List.length_cons, List.length_nil, List.set_cons_zero, List.set_cons_succ, List.take_succ_cons, List.take_zero, List.take_nil, List.drop_succ_cons, List.drop_zero, List.drop_nil, List.append_nil, List.all_cons, List.all_nil, Bool.and_true, Bool.true_and, Bool.and_false, Bool.false_and, Nat.reduceAdd, Nat.zero_add, Nat.add_zero, Nat.reduceEqDiff, if_true, if_false, reduceIte]))
    | (show DE _ _ _ _ _ _ _ _ _ _ _ _; first | (apply e_move; exact rfl; exact rfl; exact rfl) | (apply e_ixl; exact rfl; exact rfl; exact rfl; exact (ty rfl); exact rfl; exact rfl; exact rfl; exact (by first | omega | (simp; done) | (simp; omega)); exact (by first | omega | (simp; done) | (simp; omega)); exact rfl))
    | (show DE _ _ _ _ _ _ _ _ _ _ _ _; (first | (apply dr_nil; (focus ((repeat (first | exact trivial | exact Or.inr rfl | exact Or.inl (by kernel_rfl) | apply And.intro)); done))) | (apply e_rd1; exact rfl; exact rfl; exact (ty rfl); exact rfl; exact rfl; exact (by first | rfl | assumption | ((try simp only [Nat.zero_add]); refine List.getElem?_set_self ?_; (try simp only [List.length_set]); assumption)); exact rfl; exact rfl; exact rfl) | (apply e_store; exact rfl; exact rfl; exact (ty rfl); exact rfl; exact (by first | rfl | assumption | ((try simp only [Nat.zero_add]); refine List.getElem?_set_self ?_; (try simp only [List.length_set]); assumption)); exact rfl; exact rfl; exact rfl; exact rfl) | (apply e_callC; exact rfl; exact rfl; exact rfl; exact hCo _; (focus ((repeat (first | exact trivial | refine ⟨by first | exact rfl | assumption, ?_⟩)); done)); exact rfl; skip)); (try simp only [put, rowsOf, plR, List.all_cons, selE, ovr, setH, del, cellsA, splice, isV, List.nil_append, List.cons_append, List.map_cons, List.map_nil, List.length_cons, List.length_nil, List.set_cons_zero, List.set_cons_succ, List.take_succ_cons, List.take_zero, List.take_nil, List.drop_succ_cons, List.drop_zero, List.drop_nil, List.append_nil, List.all_cons, List.all_nil, Bool.and_true, Bool.true_and, Bool.and_false, Bool.false_and, Nat.reduceAdd, Nat.zero_add, Nat.add_zero, Nat.reduceEqDiff, if_true, if_false, reduceIte]))
    | (show AW _ _ _ _ _ _ _ _; first | refine aw_region ?_ | (refine aw_seqk ?_; intro K hK) | refine aw_block ?_ | (apply aw_cond_t; exact rfl; exact (by assumption)) | refine aw_skip ?_ | refine aw_drawE (id := 17) [0, 0, 0, 4, 15, 31] [0, 0, 0, 2, 1, 2, 0, 2] mixed (by kernel_rfl) ?_)
    | refine thn_n ?_
    | (refine hK _ _ _ ?_; clear hK K)
    | refine inb_n ?_)); all_goals (repeat (clear hK K)))
      refine ⟨j + 1, mv (3 + j) 500, d1, by omega, ?_⟩
      (try dsimp only)
      rw [hnx]
      refine sub_row (base := 3) (X := 500) [(0, _), (1, _), (2, _)] ⟨lk_i rfl hwj, lk_i rfl rfl, lk_s rfl (by rw [mv, if_neg (by omega)]) rfl rfl, lk_r rfl (by rw [mv, if_neg (by omega)]) rfl, lk_i rfl rfl, trivial⟩ (by omega) (fun p hp => ?_) rfl (fun a c hc hne => ?_) (by omega) (by omega) pin_0
      · simp only [List.mem_cons, List.mem_nil_iff, or_false] at hp
        rcases hp with rfl | rfl | rfl
        · exact ⟨rfl, rfl, by dsimp only; omega⟩
        · refine ⟨?_, outR_ids _ _ (by rw [List.length_map, List.length_set]; omega), by dsimp only; omega⟩
          show some _ = some (Blk.mk _ _ _ (List.map (renL _) _))
          rw [List.map_set, outR_mv (by rw [List.length_map]; omega) (by rw [List.length_map]; omega), ← hR, Int.toNat_natCast, List.set_set]
        · refine ⟨?_, ?_, by dsimp only; omega⟩
          · show some _ = some (Blk.mk _ _ _ [[AV.sl (mv (3 + j) 500 1) 0 _]])
            rw [List.length_set, mv, if_neg (by omega)]; rfl
          · show ([[AV.sl 1 0 (cur.set j (Lib.compact (So.srt l))).length]] : List (List AV)).all (idsOkL 1000) = true
            rfl
      · iterate 4 rw [look_cons, if_neg (by have := nlt hc; rw [niT_len] at this; omega)]
        iterate 3 rw [look_del_ne _ (by have := nlt hc; rw [niT_len] at this; omega)]
        rw [← hoff, off1_at hne]
        exact hc
    · have e1 : decide ((j : Int) < (N : Int)) = false := by simpa using d1
      obtain rfl : j = N := by omega
      have hdn := soF_done ls
      rw [hfin] at hdn
      rw [hdn]
      have holn : (ordL ls).length = j := by omega
      generalize ordL ls = os at *
      ((repeat' (first
    | (show SQ _ _ _ _ _ _ _ _; first | apply sq_nil | (apply q_assign; exact rfl; exact rfl) | (apply q_lss; exact rfl; exact rfl; exact rfl) | (apply q_ld1p; exact rfl; exact rfl; exact (ty rfl); exact rfl; exact rfl; exact (by first | rfl | assumption | ((try simp only [Nat.zero_add]); refine List.getElem?_set_self ?_; (try simp only [List.length_set]); assumption)); exact rfl))
    | (show AW _ _ _ _ _ _ _ _; first | refine aw_region ?_ | (refine aw_seqk ?_; intro K hK) | (apply aw_cond_f; exact rfl; exact (by assumption)) | refine aw_ret ?_ | refine aw_exit ?_)
    | refine thn_n ?_
    | (refine hK _ _ _ ?_; clear hK K)
    | refine thn_e ?_
    | refine inb_same ?_
    | (clear hK K; refine hK _ _ _ ?_; clear hK K))); all_goals (repeat (clear hK K)))
      refine fin_r (fin_ni (X := 1) (B := 3) (.r2 _ _ _ _ (.tmp _ _ rfl) (.tmp _ _ rfl)) ?_ ?_ rfl rfl hp3_in (by omega))
      · simp [renA, renL, holn]
      · simp [idsOk, idsOkL, Nat.blt_eq]
end Go.Proofs.Ytljpgbgokjiamaa.St

namespace Go.Proofs.Ytljpgbgokjiamaa.St
open Go Go.RowKit Go.Proofs.Ytljpgbgokjiamaa.Aw Go.Proofs.Ytljpgbgokjiamaa.In Go.Proofs.Ytljpgbgokjiamaa.Il Go.Proofs.Ytljpgbgokjiamaa.Sr Go.Proofs.Ytljpgbgokjiamaa.Nb
set_option linter.unusedSimpArgs false
set_option linter.unusedVariables false
attribute [local irreducible] AW SQ Step RO RC DE Thn InB
def adO (r : Ras) : List (List Int) := ordL (adF r r.sv.length)
theorem adO_len {r : Ras} (hok : okR r = true) : (adO r).length = (svN r).toNat := by
  unfold adO
  rw [ordL_len]
  exact (adF_ok hok r.sv.length (Nat.le_refl _)).ok.n
theorem adO_sym {r : Ras} (hok : okR r = true) : symL (adO r) = adO r := by
  have hA := (adF_ok hok r.sv.length (Nat.le_refl _)).ok
  have hl := adO_len hok
  unfold symL
  refine whL_ext (N := (svN r).toNat) (by rw [whL_len]; exact hl) hl fun a ha => ?_
  rw [whL_at (by omega), if_pos (by omega), hl]
  have e := sym_eq hA ha
  unfold adO at hl ⊢
  rw [e, List.getD_eq_getElem?_getD, List.getElem?_eq_getElem (by omega)]; rfl
theorem adO_valid {r : Ras} (hok : okR r = true) : nbB (adO r) = true := by
  obtain ⟨v1, v2, _⟩ := svN_bd hok
  exact ord_valid (adF_ok hok r.sv.length (Nat.le_refl _)).ok (by omega)
theorem cpt_len (xs : List Int) : (Lib.compact xs).length ≤ xs.length := by
  unfold Lib.compact Lib.compactUpTo
  rw [List.length_map]
  have := List.length_filter_le (Lib.keeps xs.toArray) (List.range xs.length)
  rw [List.length_range] at this
  exact this
theorem adO_S {r : Ras} (hok : okR r = true) : NbS (adO r) := by
  obtain ⟨v1, v2, _⟩ := svN_bd hok
  obtain ⟨_, _, _, _, n1, _⟩ := ok_nums hok
  refine ⟨by rw [adO_len hok]; omega, fun l hl => ?_⟩
  unfold adO ordL at hl
  obtain ⟨m, hm, rfl⟩ := List.mem_map.1 hl
  have h1 := ((adF_ok hok r.sv.length (Nat.le_refl _)).nbS (by omega) (by omega)).m m hm
  have h2 := cpt_len (So.srt m)
  rw [So.srt_len] at h2
  omega
theorem weak_all {r : Ras} {l : Int} (h : ∀ j, j < r.sv.length → 0 ≤ r.sv.getD j 0 → l ≤ r.lv.getD j 0) : ((wkF r l r.sv.length).length : Int) = r.sv.length - (covL r).length := by
  have := wk_cov (r := r) (l := l) r.sv.length fun j hj h0 => by have := h j hj h0; omega
  unfold covL
  omega
theorem dsc_in {r : Ras} (hok : okR r = true) {i : Nat} (hi : i < (covL r).length) : inB ((dsc r).getD i 0) (-300000) 300000 = true := by
  obtain ⟨_, _, _, _, _, _, n3, _, n5⟩ := ok_nums hok
  have hd := dsc_len r
  have hm : (dsc r).getD i 0 ∈ dsc r := by rw [getD_at (by omega)]; exact List.getElem_mem _
  rw [dsc_mem] at hm
  unfold lvC at hm
  obtain ⟨c, hc, e⟩ := List.mem_map.1 hm
  obtain ⟨q, hq, he⟩ := List.getElem_of_mem hc
  obtain ⟨j, hj, ej, _⟩ := cov_get hq
  rw [he] at ej
  subst ej
  rw [Int.toNat_natCast] at e
  have := n5 j hj
  unfold inB
  rw [← e]
  simp only [Bool.and_eq_true, decide_eq_true_eq]
  exact this
theorem aw_frzS {P : Program} {N n g : Nat} {T : Tp} {H : Hp} {Q : Exit → Tp → Hp → Nat → Prop} {c : Code} {k0 m : Nat} {ls : List (List Int)} (t : Nat) (O : Hp) (ht : Aw.look T t = some (.sl k0 0 m)) (hl : Aw.look H k0 = some (niB k0 ls)) (hn : NstIn H (k0 + 1) (niT ls)) (hm : m = ls.length)
    (hO : subE H O) (hk : (O.all fun p => Nat.blt p.1 k0) = true) (h : AW P N g c Q ((t, .dsl 1 (nbL ls)) :: T) O n) : AW P N g c Q T H n := by
  refine aw_frzN (ity := 2) (ty := 24) (Ls := ls.map fun l => l.map inL) (rows := nbL ls) (H' := O) (t := t) (k0 := k0) (len := m) ht ?_ ?_ (fun L hL => ?_) (by rw [List.length_map]; exact hm) (by rw [List.map_map]; rfl) (fun i b hb => ?_) h
  · rw [hl]
    unfold niB nestB
    rw [List.map_map]
    have : (List.length ∘ fun l => List.map inL l) = List.length := by funext l; simp
    rw [this]
  · rw [List.map_map]; exact hn
  · obtain ⟨a, _, rfl⟩ := List.mem_map.1 hL
    exact all_noOwn_map fun _ => rfl
  · refine ⟨subE_get hO i b hb, fun hc => ?_⟩
    obtain ⟨p, hp, e⟩ := List.mem_map.1 (look_mem hb)
    have := List.all_eq_true.1 hk p hp
    rw [Nat.blt_eq] at this
    omega
end Go.Proofs.Ytljpgbgokjiamaa.St

namespace Go.Proofs.Ytljpgbgokjiamaa.St
open Go Go.RowKit Go.Proofs.Ytljpgbgokjiamaa.Aw Go.Proofs.Ytljpgbgokjiamaa.In Go.Proofs.Ytljpgbgokjiamaa.Il Go.Proofs.Ytljpgbgokjiamaa.Sr Go.Proofs.Ytljpgbgokjiamaa.Nb
set_option linter.unusedSimpArgs false
set_option linter.unusedVariables false
attribute [local irreducible] AW SQ Step RO RC DE Thn InB
theorem ones_set {n i : Nat} (h : i < n) : ((List.replicate i (1 : Int) ++ List.replicate (n - i) 0).map inL).set ((i : Int)).toNat [.v (.int .i64 1)] = (List.replicate (i + 1) (1 : Int) ++ List.replicate (n - (i + 1)) 0).map inL := by
  have e1 : n - i = (n - (i + 1)) + 1 := by omega
  have e2 : ((List.replicate i (1 : Int)).map inL).length = i := by rw [List.length_map, List.length_replicate]
  rw [Int.toNat_natCast, List.map_append, List.map_append, List.set_append_right _ _ (by omega), e2, Nat.sub_self, e1, List.replicate_succ (n := n - (i + 1)), List.map_cons, List.set_cons_zero, List.replicate_succ', List.map_append, List.append_assoc]; rfl
set_option maxHeartbeats 4000000 in
theorem lawStat_ro (bs ms : List Int) (hb : ∀ b ∈ bs, 0 ≤ b ∧ b ≤ 255) (hn : bs.length ≤ 9223372036854775807) (hb2 : ∀ b ∈ ms, 0 ≤ b ∧ b ≤ 255) (hn2 : ms.length ≤ 9223372036854775807) (k : Nat) : RO Try.prog 3 [.dsl 1 (byL bs), .dsl 1 (byL ms)] k (.v (.bool true)) [] k := by
  have hL1 := b10Long_ro bs
  have hL2 := b10Long_ro ms
  refine RO.ofv' Try.func3 Try.ntmps3 rfl (goFn_of Try.func3 rfl (by kernel_rfl)) rfl rfl ?_
  cases h1 : decide (1048576 < (((byL bs).length : Nat) : Int)) with
  | true =>
    rw [h1] at hL1
    ((repeat' (first
    | (show SQ _ _ _ _ _ _ _ _; first | apply sq_nil | (apply q_move; exact rfl; exact rfl) | (apply q_assign; exact rfl; exact rfl) | (apply q_pick_t; exact rfl; exact rfl; exact rfl; exact (by first | assumption | exact rfl)) | (apply q_s; exact rfl; exact rfl; exact rfl; exact rfl; exact rfl))
    | (show SQ _ _ _ _ _ _ _ _; (first | (apply q_callU; exact rfl; exact rfl; exact rfl; exact FzL.of rfl; exact hL1 _)); (try simp only [put, rowsOf, plR, List.all_cons, selE, ovr, setH, del, cellsA, splice, isV, List.nil_append, List.cons_append, List.map_cons, List.map_nil, List.length_cons, List.length_nil, List.set_cons_zero, List.set_cons_succ, List.take_succ_cons, List.take_zero, List.take_nil, List.drop_succ_cons, List.drop_zero, List.drop_nil, List.append_nil, List.all_cons, List.all_nil, Bool.and_true, Bool.true_and, Bool.and_false, Bool.false_and, Nat.reduceAdd, Nat.zero_add, Nat.add_zero, Nat.reduceEqDiff, if_true, if_false, reduceIte]))
    | (show AW _ _ _ _ _ _ _ _; first | refine aw_region ?_ | (refine aw_seqk ?_; intro K hK) | (apply aw_cond_t; exact rfl; exact rfl) | refine aw_ret ?_)
    | refine thn_n ?_
    | (refine hK _ _ _ ?_; clear hK K)
    | refine thn_r ?_)); all_goals (repeat (clear hK K)))
    all_goals exact fin_r (fin_b rfl rfl)
  | false =>
  rw [h1] at hL1
  cases h2 : decide (1048576 < (((byL ms).length : Nat) : Int)) with
  | true =>
    rw [h2] at hL2
    ((repeat' (first
    | (show SQ _ _ _ _ _ _ _ _; first | apply sq_nil | (apply q_move; exact rfl; exact rfl) | (apply q_assign; exact rfl; exact rfl) | (apply q_pick_f; exact rfl; exact rfl; exact rfl; exact (by first | assumption | exact rfl)) | (apply q_g; exact rfl; exact rfl; exact rfl; exact rfl))
    | (show SQ _ _ _ _ _ _ _ _; (first | (apply q_callU; exact rfl; exact rfl; exact rfl; exact FzL.of rfl; exact hL1 _) | (apply q_callU; exact rfl; exact rfl; exact rfl; exact FzL.of rfl; exact hL2 _)); (try simp only [put, rowsOf, plR, List.all_cons, selE, ovr, setH, del, cellsA, splice, isV, List.nil_append, List.cons_append, List.map_cons, List.map_nil, List.length_cons, List.length_nil, List.set_cons_zero, List.set_cons_succ, List.take_succ_cons, List.take_zero, List.take_nil, List.drop_succ_cons, List.drop_zero, List.drop_nil, List.append_nil, List.all_cons, List.all_nil, Bool.and_true, Bool.true_and, Bool.and_false, Bool.false_and, Nat.reduceAdd, Nat.zero_add, Nat.add_zero, Nat.reduceEqDiff, if_true, if_false, reduceIte]))
    | (show AW _ _ _ _ _ _ _ _; first | refine aw_region ?_ | (refine aw_seqk ?_; intro K hK) | (apply aw_cond_t; exact rfl; exact rfl) | refine aw_ret ?_)
    | refine thn_n ?_
    | (refine hK _ _ _ ?_; clear hK K)
    | refine thn_r ?_)); all_goals (repeat (clear hK K)))
    all_goals exact fin_r (fin_b rfl rfl)
  | false =>
  rw [h2] at hL2
  obtain ⟨a, b, ha, hb3, hPr⟩ := DrawCompare_ex bs hb hn
  ((repeat' (first
    | (show AW _ _ _ _ _ _ _ _; first | (refine aw_seqk ?_; intro K hK)))); all_goals (repeat (clear hK K)))
  refine aw_region ?_
  ((repeat' (first
    | (show SQ _ _ _ _ _ _ _ _; first | apply sq_nil | (apply q_assign; exact rfl; exact rfl))
    | (show AW _ _ _ _ _ _ _ _; first | (refine aw_seqk ?_; intro K hK))
    | refine thn_n ?_
    | (refine hK _ _ _ ?_; clear hK K))); all_goals (repeat (clear hK K)))
  refine aw_region ?_
  ((repeat' (first
    | (show SQ _ _ _ _ _ _ _ _; first | apply sq_nil | (apply q_move; exact rfl; exact rfl) | (apply q_pick_f; exact rfl; exact rfl; exact rfl; exact (by first | assumption | exact rfl)) | (apply q_g; exact rfl; exact rfl; exact rfl; exact rfl))
    | (show SQ _ _ _ _ _ _ _ _; (first | (apply q_callU; exact rfl; exact rfl; exact rfl; exact FzL.of rfl; exact hL1 _) | (apply q_callU; exact rfl; exact rfl; exact rfl; exact FzL.of rfl; exact hL2 _)); (try simp only [put, rowsOf, plR, List.all_cons, selE, ovr, setH, del, cellsA, splice, isV, List.nil_append, List.cons_append, List.map_cons, List.map_nil, List.length_cons, List.length_nil, List.set_cons_zero, List.set_cons_succ, List.take_succ_cons, List.take_zero, List.take_nil, List.drop_succ_cons, List.drop_zero, List.drop_nil, List.append_nil, List.all_cons, List.all_nil, Bool.and_true, Bool.true_and, Bool.and_false, Bool.false_and, Nat.reduceAdd, Nat.zero_add, Nat.add_zero, Nat.reduceEqDiff, if_true, if_false, reduceIte]))
    | (show AW _ _ _ _ _ _ _ _; first | (refine aw_seqk ?_; intro K hK) | (apply aw_cond_f; exact rfl; exact rfl) | refine aw_skip ?_)
    | refine thn_n ?_
    | (refine hK _ _ _ ?_; clear hK K))); all_goals (repeat (clear hK K)))
  refine aw_cutK hK [(1, .dsl 1 (byL ms)), (5, .ptr 0 0 0), (6, .ptr 1 0 0)] [(0, boxR a), (1, boxR b)] 1000 ?_ ?_
  · refine aw_region ?_
    unfold boxR
    rcases hPr with hp | hp
    · unfold rasL at hp
      ((repeat' (first
    | (show SQ _ _ _ _ _ _ _ _; first | apply sq_nil | (apply q_move; exact rfl; exact rfl) | (apply q_ext; exact rfl; exact rfl; exact rfl))
    | (show SQ _ _ _ _ _ _ _ _; (first | (apply q_alloc; exact rfl; exact (ty rfl); exact rfl; exact rfl) | (apply q_store; exact rfl; exact rfl; exact (ty rfl); exact rfl; exact (by first | rfl | assumption | ((try simp only [Nat.zero_add]); refine List.getElem?_set_self ?_; (try simp only [List.length_set]); assumption)); exact rfl; exact rfl; exact rfl) | (apply q_callC; exact rfl; exact rfl; exact rfl; exact hp _; (focus ((repeat (first | exact trivial | refine ⟨by first | exact rfl | assumption, ?_⟩)); done)); skip)); (try simp only [put, rowsOf, plR, List.all_cons, selE, ovr, setH, del, cellsA, splice, isV, List.nil_append, List.cons_append, List.map_cons, List.map_nil, List.length_cons, List.length_nil, List.set_cons_zero, List.set_cons_succ, List.take_succ_cons, List.take_zero, List.take_nil, List.drop_succ_cons, List.drop_zero, List.drop_nil, List.append_nil, List.all_cons, List.all_nil, Bool.and_true, Bool.true_and, Bool.and_false, Bool.false_and, Nat.reduceAdd, Nat.zero_add, Nat.add_zero, Nat.reduceEqDiff, if_true, if_false, reduceIte]))
    | refine thn_n ?_)); all_goals (repeat (clear hK K)))
      exact ⟨id, ⟨by (repeat (refine ⟨by first | exact lk_d rfl rfl | exact lk_r rfl rfl rfl, ?_⟩)); exact trivial, by (repeat (refine ⟨by first | exact ⟨rfl, rfl, rfl⟩, ?_⟩)); exact trivial, by rfl, by exact pin_0⟩⟩
    · unfold rasL at hp
      ((repeat' (first
    | (show SQ _ _ _ _ _ _ _ _; apply sq_frza (t := 41) 3; exact rfl; exact rfl; exact rfl; exact (by first | rfl | exact all_noOwn_map (fun _ => rfl) | assumption | exact hclo); exact (by first | omega | (simp; done) | (simp; omega)); exact (by first | exact dt_full (by first | omega | (simp; done) | (simp; omega)) | assumption | rfl); (try simp only [put, rowsOf, plR, List.all_cons, selE, ovr, setH, del, cellsA, splice, isV, List.nil_append, List.cons_append, List.map_cons, List.map_nil, List.length_cons, List.length_nil, List.set_cons_zero, List.set_cons_succ, List.take_succ_cons, List.take_zero, List.take_nil, List.drop_succ_cons, List.drop_zero, List.drop_nil, List.append_nil, List.all_cons, List.all_nil, Bool.and_true, Bool.true_and, Bool.and_false, Bool.false_and, Nat.reduceAdd, Nat.zero_add, Nat.add_zero, Nat.reduceEqDiff, if_true, if_false, reduceIte]))
    | (show SQ _ _ _ _ _ _ _ _; apply sq_frza (t := 41) 4; exact rfl; exact rfl; exact rfl; exact (by first | rfl | exact all_noOwn_map (fun _ => rfl) | assumption | exact hclo); exact (by first | omega | (simp; done) | (simp; omega)); exact (by first | exact dt_full (by first | omega | (simp; done) | (simp; omega)) | assumption | rfl); (try simp only [put, rowsOf, plR, List.all_cons, selE, ovr, setH, del, cellsA, splice, isV, List.nil_append, List.cons_append, List.map_cons, List.map_nil, List.length_cons, List.length_nil, List.set_cons_zero, List.set_cons_succ, List.take_succ_cons, List.take_zero, List.take_nil, List.drop_succ_cons, List.drop_zero, List.drop_nil, List.append_nil, List.all_cons, List.all_nil, Bool.and_true, Bool.true_and, Bool.and_false, Bool.false_and, Nat.reduceAdd, Nat.zero_add, Nat.add_zero, Nat.reduceEqDiff, if_true, if_false, reduceIte]))
    | (show SQ _ _ _ _ _ _ _ _; first | apply sq_nil | (apply q_move; exact rfl; exact rfl) | (apply q_ext; exact rfl; exact rfl; exact rfl))
    | (show SQ _ _ _ _ _ _ _ _; (first | (apply q_alloc; exact rfl; exact (ty rfl); exact rfl; exact rfl) | (apply q_store; exact rfl; exact rfl; exact (ty rfl); exact rfl; exact (by first | rfl | assumption | ((try simp only [Nat.zero_add]); refine List.getElem?_set_self ?_; (try simp only [List.length_set]); assumption)); exact rfl; exact rfl; exact rfl) | (apply q_callC; exact rfl; exact rfl; exact rfl; exact hp _; (focus ((repeat (first | exact trivial | refine ⟨by first | exact rfl | assumption, ?_⟩)); done)); skip)); (try simp only [put, rowsOf, plR, List.all_cons, selE, ovr, setH, del, cellsA, splice, isV, List.nil_append, List.cons_append, List.map_cons, List.map_nil, List.length_cons, List.length_nil, List.set_cons_zero, List.set_cons_succ, List.take_succ_cons, List.take_zero, List.take_nil, List.drop_succ_cons, List.drop_zero, List.drop_nil, List.append_nil, List.all_cons, List.all_nil, Bool.and_true, Bool.true_and, Bool.and_false, Bool.false_and, Nat.reduceAdd, Nat.zero_add, Nat.add_zero, Nat.reduceEqDiff, if_true, if_false, reduceIte]))
    | refine thn_n ?_)); all_goals (repeat (clear hK K)))
      exact ⟨fun j => [2, 3].getD j 0, ⟨by (repeat (refine ⟨by first | exact lk_d rfl rfl | exact lk_r rfl rfl rfl, ?_⟩)); exact trivial, by (repeat (refine ⟨by first | exact ⟨rfl, rfl, rfl⟩, ?_⟩)); exact trivial, by rfl, by exact pin_0⟩⟩
  have hCa := CompareRasters_ro a b ha hb3
  have hCb := CompareRasters_ro b a hb3 ha
  rw [cmpV_q] at hCa hCb
  obtain ⟨q1, q2, q3, q4, q5⟩ := cmpQ_comm a b
  rw [q1, q2, q3, q4, q5, cmpC_comm] at hCa
  have n0 : (cmpC b a != cmpC b a) = false := by simp
  have n1 : ((cmpQ b a).1 != (cmpQ b a).1) = false := by simp
  have n2 : ((cmpQ b a).2.1 != (cmpQ b a).2.1) = false := by simp
  have n3 : ((cmpQ b a).2.2.1 != (cmpQ b a).2.2.1) = false := by simp
  have n4 : ((cmpQ b a).2.2.2.1 != (cmpQ b a).2.2.2.1) = false := by simp
  have n5 : ((cmpQ b a).2.2.2.2 != (cmpQ b a).2.2.2.2) = false := by simp
  generalize (cmpQ b a).1 = x1 at *
  generalize (cmpQ b a).2.1 = x2 at *
  generalize (cmpQ b a).2.2.1 = x3 at *
  generalize (cmpQ b a).2.2.2.1 = x4 at *
  generalize (cmpQ b a).2.2.2.2 = x5 at *
  generalize cmpC b a = c at *
  unfold boxR
  unfold rasL at hCa hCb
  ((repeat' (first
    | (show AW _ _ _ _ _ _ _ _; first | (refine aw_seqk ?_; intro K hK)))); all_goals (repeat (clear hK K)))
  refine aw_region ?_
  ((repeat' (first
    | (show SQ _ _ _ _ _ _ _ _; first | apply sq_nil | (apply q_move; exact rfl; exact rfl) | (apply q_assign; exact rfl; exact rfl) | (apply q_ext; exact rfl; exact rfl; exact rfl))
    | (show SQ _ _ _ _ _ _ _ _; (first | (apply q_ldap; exact rfl; exact rfl; exact (ty rfl); exact rfl; exact rfl; exact (by first | rfl | assumption | ((try simp only [Nat.zero_add]); refine List.getElem?_set_self ?_; (try simp only [List.length_set]); assumption)); exact rfl) | (apply q_alloc; exact rfl; exact (ty rfl); exact rfl; exact rfl) | (apply q_store; exact rfl; exact rfl; exact (ty rfl); exact rfl; exact (by first | rfl | assumption | ((try simp only [Nat.zero_add]); refine List.getElem?_set_self ?_; (try simp only [List.length_set]); assumption)); exact rfl; exact rfl; exact rfl) | (apply q_callU; exact rfl; exact rfl; exact rfl; exact FzL.of rfl; exact hCa _)); (try simp only [put, rowsOf, plR, List.all_cons, selE, ovr, setH, del, cellsA, splice, isV, List.nil_append, List.cons_append, List.map_cons, List.map_nil, List.length_cons, List.length_nil, List.set_cons_zero, List.set_cons_succ, List.take_succ_cons, List.take_zero, List.take_nil, List.drop_succ_cons, List.drop_zero, List.drop_nil, List.append_nil, List.all_cons, List.all_nil, Bool.and_true, Bool.true_and, Bool.and_false, Bool.false_and, Nat.reduceAdd, Nat.zero_add, Nat.add_zero, Nat.reduceEqDiff, if_true, if_false, reduceIte]))
    | (show AW _ _ _ _ _ _ _ _; first | (refine aw_seqk ?_; intro K hK))
    | refine thn_n ?_
    | (refine hK _ _ _ ?_; clear hK K))); all_goals (repeat (clear hK K)))
  refine aw_region ?_
  ((repeat' (first
    | (show SQ _ _ _ _ _ _ _ _; first | apply sq_nil | (apply q_move; exact rfl; exact rfl) | (apply q_assign; exact rfl; exact rfl) | (apply q_ext; exact rfl; exact rfl; exact rfl))
    | (show SQ _ _ _ _ _ _ _ _; (first | (apply q_ldap; exact rfl; exact rfl; exact (ty rfl); exact rfl; exact rfl; exact (by first | rfl | assumption | ((try simp only [Nat.zero_add]); refine List.getElem?_set_self ?_; (try simp only [List.length_set]); assumption)); exact rfl) | (apply q_alloc; exact rfl; exact (ty rfl); exact rfl; exact rfl) | (apply q_store; exact rfl; exact rfl; exact (ty rfl); exact rfl; exact (by first | rfl | assumption | ((try simp only [Nat.zero_add]); refine List.getElem?_set_self ?_; (try simp only [List.length_set]); assumption)); exact rfl; exact rfl; exact rfl) | (apply q_callU; exact rfl; exact rfl; exact rfl; exact FzL.of rfl; exact hCb _)); (try simp only [put, rowsOf, plR, List.all_cons, selE, ovr, setH, del, cellsA, splice, isV, List.nil_append, List.cons_append, List.map_cons, List.map_nil, List.length_cons, List.length_nil, List.set_cons_zero, List.set_cons_succ, List.take_succ_cons, List.take_zero, List.take_nil, List.drop_succ_cons, List.drop_zero, List.drop_nil, List.append_nil, List.all_cons, List.all_nil, Bool.and_true, Bool.true_and, Bool.and_false, Bool.false_and, Nat.reduceAdd, Nat.zero_add, Nat.add_zero, Nat.reduceEqDiff, if_true, if_false, reduceIte]))
    | (show AW _ _ _ _ _ _ _ _; first | (refine aw_seqk ?_; intro K hK))
    | refine thn_n ?_
    | (refine hK _ _ _ ?_; clear hK K))); all_goals (repeat (clear hK K)))
  refine aw_region ?_
  ((repeat' (first
    | (show SQ _ _ _ _ _ _ _ _; first | apply sq_nil | (apply q_move; exact rfl; exact rfl) | (apply q_pick_f; exact rfl; exact rfl; exact rfl; exact (by first | assumption | exact rfl)) | (apply q_fieldAddr; exact rfl; exact rfl; exact (ty rfl); exact rfl; exact rfl; exact rfl; exact rfl) | (apply q_neq; exact rfl; exact rfl; exact rfl) | (apply q_ld1p; exact rfl; exact rfl; exact (ty rfl); exact rfl; exact rfl; exact (by first | rfl | assumption | ((try simp only [Nat.zero_add]); refine List.getElem?_set_self ?_; (try simp only [List.length_set]); assumption)); exact rfl) | (apply q_g; exact rfl; exact rfl; exact rfl; exact (by assumption)))
    | (show AW _ _ _ _ _ _ _ _; first | (refine aw_seqk ?_; intro K hK) | (apply aw_cond_f; exact rfl; exact (by assumption)) | refine aw_skip ?_)
    | refine thn_n ?_
    | (refine hK _ _ _ ?_; clear hK K))); all_goals (repeat (clear hK K)))
  refine aw_weak (ρ := id) (T' := [(1, .dsl 1 (byL ms)), (5, .ptr 0 0 0)]) (H' := [(0, ⟨26, 5, false, [[.v (.int .i64 a.st), .v (.int .i64 a.wd), .v (.int .i64 a.ht), .dsl 1 (a.sv.map inL), .dsl 1 (a.lv.map inL)]]⟩)]) (n' := 1) ⟨by (repeat (refine ⟨by first | exact lk_d rfl rfl | exact lk_r rfl rfl rfl, ?_⟩)); exact trivial, by (repeat (refine ⟨by first | exact ⟨rfl, rfl, rfl⟩, ?_⟩)); exact trivial, by rfl, by exact pin_0⟩ ?_
  have hVs := specValidRaster_ro a ha
  have hCv := CoveredCells_ro a ha
  have hAr := AreaCovered_ro a ha
  clear n0 n1 n2 n3 n4 n5 q1 q2 q3 q4 q5 hCa hCb hPr hL1 hL2
  cases hok : okR a with
  | false =>
    rw [hok] at hVs
    rw [if_neg (by rw [hok]; decide)] at hCv hAr
    have e0 : IntKind.i64.wrap (IntKind.i64.wrap (0 * a.st) * a.st) = 0 := by rw [Int.zero_mul, show IntKind.i64.wrap 0 = 0 from rfl, Int.zero_mul]; rfl
    rw [e0] at hAr
    unfold rasL at hVs hCv hAr
    refine aw_region ?_
    ((repeat' (first
    | (show SQ _ _ _ _ _ _ _ _; first | apply sq_nil | (apply q_move; exact rfl; exact rfl) | (apply q_assign; exact rfl; exact rfl) | (apply q_pick_t; exact rfl; exact rfl; exact rfl; exact (by first | assumption | exact rfl)) | (apply q_not; exact rfl; exact rfl) | (apply q_eql; exact rfl; exact rfl; exact rfl) | (apply q_g; exact rfl; exact rfl; exact rfl; exact rfl))
    | (show SQ _ _ _ _ _ _ _ _; (first | (apply q_ldap; exact rfl; exact rfl; exact (ty rfl); exact rfl; exact rfl; exact (by first | rfl | assumption | ((try simp only [Nat.zero_add]); refine List.getElem?_set_self ?_; (try simp only [List.length_set]); assumption)); exact rfl) | (apply q_callU; exact rfl; exact rfl; exact rfl; exact FzL.of rfl; exact hVs _) | (apply q_callU; exact rfl; exact rfl; exact rfl; exact FzL.of rfl; exact hCv _) | (apply q_callU; exact rfl; exact rfl; exact rfl; exact FzL.of rfl; exact hAr _)); (try simp only [put, rowsOf, plR, List.all_cons, selE, ovr, setH, del, cellsA, splice, isV, List.nil_append, List.cons_append, List.map_cons, List.map_nil, List.length_cons, List.length_nil, List.set_cons_zero, List.set_cons_succ, List.take_succ_cons, List.take_zero, List.take_nil, List.drop_succ_cons, List.drop_zero, List.drop_nil, List.append_nil, List.all_cons, List.all_nil, Bool.and_true, Bool.true_and, Bool.and_false, Bool.false_and, Nat.reduceAdd, Nat.zero_add, Nat.add_zero, Nat.reduceEqDiff, if_true, if_false, reduceIte]))
    | (show AW _ _ _ _ _ _ _ _; first | refine aw_region ?_ | (refine aw_seqk ?_; intro K hK) | (apply aw_cond_t; exact rfl; exact rfl) | refine aw_ret ?_)
    | refine thn_n ?_
    | (refine hK _ _ _ ?_; clear hK K)
    | refine thn_r ?_)); all_goals (repeat (clear hK K)))
    all_goals exact fin_r (fin_b rfl rfl)
  | true =>
  rw [hok] at hVs
  rw [if_pos hok] at hCv hAr
  unfold rasL at hVs hCv hAr
  have l1 : (a.sv.map inL).length = a.sv.length := List.length_map _
  obtain ⟨r1, _, _, _, r5, r6, r7, r8, r9⟩ := ok_nums hok
  refine aw_region ?_
  ((repeat' (first
    | (show SQ _ _ _ _ _ _ _ _; first | apply sq_nil | (apply q_not; exact rfl; exact rfl))
    | (show SQ _ _ _ _ _ _ _ _; (first | (apply q_ldap; exact rfl; exact rfl; exact (ty rfl); exact rfl; exact rfl; exact (by first | rfl | assumption | ((try simp only [Nat.zero_add]); refine List.getElem?_set_self ?_; (try simp only [List.length_set]); assumption)); exact rfl) | (apply q_callU; exact rfl; exact rfl; exact rfl; exact FzL.of rfl; exact hVs _)); (try simp only [put, rowsOf, plR, List.all_cons, selE, ovr, setH, del, cellsA, splice, isV, List.nil_append, List.cons_append, List.map_cons, List.map_nil, List.length_cons, List.length_nil, List.set_cons_zero, List.set_cons_succ, List.take_succ_cons, List.take_zero, List.take_nil, List.drop_succ_cons, List.drop_zero, List.drop_nil, List.append_nil, List.all_cons, List.all_nil, Bool.and_true, Bool.true_and, Bool.and_false, Bool.false_and, Nat.reduceAdd, Nat.zero_add, Nat.add_zero, Nat.reduceEqDiff, if_true, if_false, reduceIte]))
    | (show AW _ _ _ _ _ _ _ _; first | (refine aw_seqk ?_; intro K hK) | (apply aw_cond_f; exact rfl; exact rfl) | refine aw_skip ?_)
    | refine thn_n ?_
    | (refine hK _ _ _ ?_; clear hK K))); all_goals (repeat (clear hK K)))
  refine aw_region ?_
  ((repeat' (first
    | (show SQ _ _ _ _ _ _ _ _; first | apply sq_nil | (apply q_assign; exact rfl; exact rfl))
    | (show SQ _ _ _ _ _ _ _ _; (first | (apply q_ldap; exact rfl; exact rfl; exact (ty rfl); exact rfl; exact rfl; exact (by first | rfl | assumption | ((try simp only [Nat.zero_add]); refine List.getElem?_set_self ?_; (try simp only [List.length_set]); assumption)); exact rfl) | (apply q_callU; exact rfl; exact rfl; exact rfl; exact FzL.of rfl; exact hCv _)); (try simp only [put, rowsOf, plR, List.all_cons, selE, ovr, setH, del, cellsA, splice, isV, List.nil_append, List.cons_append, List.map_cons, List.map_nil, List.length_cons, List.length_nil, List.set_cons_zero, List.set_cons_succ, List.take_succ_cons, List.take_zero, List.take_nil, List.drop_succ_cons, List.drop_zero, List.drop_nil, List.append_nil, List.all_cons, List.all_nil, Bool.and_true, Bool.true_and, Bool.and_false, Bool.false_and, Nat.reduceAdd, Nat.zero_add, Nat.add_zero, Nat.reduceEqDiff, if_true, if_false, reduceIte]))
    | (show AW _ _ _ _ _ _ _ _; first | (refine aw_seqk ?_; intro K hK))
    | refine thn_n ?_
    | (refine hK _ _ _ ?_; clear hK K))); all_goals (repeat (clear hK K)))
  refine aw_region ?_
  ((repeat' (first
    | (show SQ _ _ _ _ _ _ _ _; first | apply sq_nil | (apply q_assign; exact rfl; exact rfl) | (apply q_fieldAddr; exact rfl; exact rfl; exact (ty rfl); exact rfl; exact rfl; exact rfl; exact rfl) | (apply q_lend; exact rfl; exact rfl; exact (ty rfl); exact rfl) | (apply q_ld1p; exact rfl; exact rfl; exact (ty rfl); exact rfl; exact rfl; exact (by first | rfl | assumption | ((try simp only [Nat.zero_add]); refine List.getElem?_set_self ?_; (try simp only [List.length_set]); assumption)); exact rfl))
    | (show SQ _ _ _ _ _ _ _ _; (first | (apply q_mks; exact rfl; exact rfl; exact rfl; exact (ty rfl); exact rfl; exact (by first | omega | (simp; done) | (simp; omega)); exact (by first | omega | (simp; done) | (simp; omega)); exact (by first | omega | (simp; done) | (simp; omega)); exact (by first | omega | (simp; done) | (simp; omega)); exact rfl; exact rfl)); (try simp only [put, rowsOf, plR, List.all_cons, selE, ovr, setH, del, cellsA, splice, isV, List.nil_append, List.cons_append, List.map_cons, List.map_nil, List.length_cons, List.length_nil, List.set_cons_zero, List.set_cons_succ, List.take_succ_cons, List.take_zero, List.take_nil, List.drop_succ_cons, List.drop_zero, List.drop_nil, List.append_nil, List.all_cons, List.all_nil, Bool.and_true, Bool.true_and, Bool.and_false, Bool.false_and, Nat.reduceAdd, Nat.zero_add, Nat.add_zero, Nat.reduceEqDiff, if_true, if_false, reduceIte]))
    | (show AW _ _ _ _ _ _ _ _; first | refine aw_region ?_ | (refine aw_seqk ?_; intro K hK) | refine aw_block ?_)
    | refine thn_n ?_
    | (refine hK _ _ _ ?_; clear hK K))); all_goals (repeat (clear hK K)))
  refine aw_loop (ρ := id) (ι := Nat) (fun i => ([(13, .v (.int .i64 (i : Int))), (12, .sl 1 0 a.sv.length), (11, .v (.int .i64 ((covL a).length : Int))), (1, .dsl 1 (byL ms)), (5, .ptr 0 0 0)],
      [(0, ⟨26, 5, false, [[.v (.int .i64 a.st), .v (.int .i64 a.wd), .v (.int .i64 a.ht), .dsl 1 (a.sv.map inL), .dsl 1 (a.lv.map inL)]]⟩), (1, ⟨2, 1, true, (List.replicate i (1 : Int) ++ List.replicate (a.sv.length - i) 0).map inL⟩)], 2))
    (fun i => i ≤ a.sv.length) (fun i => a.sv.length - i) 0 (Nat.zero_le _) ⟨by (repeat (refine ⟨by first | exact lk_i rfl rfl | exact lk_d rfl rfl | exact lk_r rfl rfl rfl | exact lk_s rfl rfl (by (try dsimp only); first | rfl | omega | (rw [IntWalk.i64_in _ (by omega)]; first | rfl | omega | (push_cast; omega)) | (simp; done) | (simp; omega)) rfl, ?_⟩)); exact trivial, by (repeat (refine ⟨by first | exact ⟨rfl, rfl, rfl⟩ | exact lkb rfl rfl rfl (by (try dsimp only); first | rfl | (rw [l1, List.replicate_zero, List.nil_append, Nat.sub_zero, List.map_replicate]; rfl)) rfl, ?_⟩)); exact trivial, by rfl, by exact pin_0⟩ ?_
  intro i hi
  (try dsimp only)
  by_cases c1 : i < a.sv.length
  · have b1 : decide ((i : Int) < (a.sv.length : Int)) = true := by simpa using c1
    have hw : IntKind.i64.wrap ((i : Int) + 1) = ((i + 1 : Nat) : Int) := by rw [IntWalk.i64_in _ (by omega)]; omega
    have hr1 : ((List.replicate i (1 : Int) ++ List.replicate (a.sv.length - i) 0).map inL)[0 + ((i : Int)).toNat]? = some [.v (.int .i64 0)] := by
      rw [Nat.zero_add, Int.toNat_natCast, List.getElem?_map, List.getElem?_append_right (by simp), List.length_replicate, Nat.sub_self, List.getElem?_replicate, if_pos (by omega)]; rfl
    ((repeat' (first
    | (show SQ _ _ _ _ _ _ _ _; first | apply sq_nil | (apply q_move; exact rfl; exact rfl) | (apply q_assign; exact rfl; exact rfl) | (apply q_lenl; exact rfl; exact rfl; exact (ty rfl); exact rfl) | (apply q_add; exact rfl; exact rfl; exact rfl) | (apply q_lss; exact rfl; exact rfl; exact rfl) | (apply q_ixl; exact rfl; exact rfl; exact rfl; exact (ty rfl); exact rfl; exact rfl; exact rfl; exact (by first | omega | (simp; done) | (simp; omega)); exact (by first | omega | (simp; done) | (simp; omega))))
    | (show SQ _ _ _ _ _ _ _ _; (first | (apply q_store; exact rfl; exact rfl; exact (ty rfl); exact rfl; exact (by first | rfl | assumption | ((try simp only [Nat.zero_add]); refine List.getElem?_set_self ?_; (try simp only [List.length_set]); assumption)); exact rfl; exact rfl; exact rfl)); (try simp only [put, rowsOf, plR, List.all_cons, selE, ovr, setH, del, cellsA, splice, isV, List.nil_append, List.cons_append, List.map_cons, List.map_nil, List.length_cons, List.length_nil, List.set_cons_zero, List.set_cons_succ, List.take_succ_cons, List.take_zero, List.take_nil, List.drop_succ_cons, List.drop_zero, List.drop_nil, List.append_nil, List.all_cons, List.all_nil, Bool.and_true, Bool.true_and, Bool.and_false, Bool.false_and, Nat.reduceAdd, Nat.zero_add, Nat.add_zero, Nat.reduceEqDiff, if_true, if_false, reduceIte]))
    | (show AW _ _ _ _ _ _ _ _; first | refine aw_region ?_ | (refine aw_seqk ?_; intro K hK) | refine aw_block ?_ | (apply aw_cond_t; exact rfl; exact (by assumption)) | refine aw_skip ?_)
    | refine thn_n ?_
    | (refine hK _ _ _ ?_; clear hK K)
    | refine inb_n ?_)); all_goals (repeat (clear hK K)))
    refine ⟨i + 1, id, c1, by omega, ?_⟩
    (try dsimp only)
    rw [← ones_set c1, ← hw]
    exact ⟨by (repeat (refine ⟨by first | exact lk_i rfl rfl | exact lk_d rfl rfl | exact lk_r rfl rfl rfl | exact lk_s rfl rfl rfl rfl, ?_⟩)); exact trivial, by (repeat (refine ⟨by first | exact ⟨rfl, rfl, rfl⟩, ?_⟩)); exact trivial, by rfl, by exact pin_0⟩
  have b1 : decide ((i : Int) < (a.sv.length : Int)) = false := by simpa using c1
  obtain rfl : i = a.sv.length := by omega
  rw [Nat.sub_self, List.replicate_zero, List.append_nil]
  have lo : ((List.replicate a.sv.length (1 : Int)).map inL).length = a.sv.length := by rw [List.length_map, List.length_replicate]
  have hCP := CoveredPeople_ro a ha hok
  have hW0 := WeakCells_ro a ha hok (-300000) rfl
  have hHi := HistogramOf_ro a ha hok
  have hAd := Adjacent_ro a ha hok
  change ∀ k, RO Try.prog _ _ k _ ((k, niB k (adO a)) :: nst (k + 1) (niT (adO a))) (k + 1000) at hAd
  generalize (List.replicate a.sv.length (1 : Int)).map inL = ones at *
  unfold rasL at hCP hW0 hHi hAd
  ((repeat' (first
    | (show AW _ _ _ _ _ _ _ _; first | (refine aw_seqk ?_; intro K hK)))); all_goals (repeat (clear hK K)))
  refine aw_region ?_
  ((repeat' (first
    | (show SQ _ _ _ _ _ _ _ _; first | apply sq_nil | (apply q_move; exact rfl; exact rfl) | (apply q_lenl; exact rfl; exact rfl; exact (ty rfl); exact rfl) | (apply q_lss; exact rfl; exact rfl; exact rfl))
    | (show AW _ _ _ _ _ _ _ _; first | (refine aw_seqk ?_; intro K hK) | (apply aw_cond_f; exact rfl; exact (by assumption)) | refine aw_exit ?_)
    | refine thn_n ?_
    | (refine hK _ _ _ ?_; clear hK K)
    | refine thn_e ?_
    | refine inb_same ?_
    | (clear hK K; refine hK _ _ _ ?_; clear hK K))); all_goals (repeat (clear hK K)))
  refine aw_region ?_
  ((repeat' (first
    | (show SQ _ _ _ _ _ _ _ _; first | apply sq_nil | (apply q_move; exact rfl; exact rfl) | (apply q_assign; exact rfl; exact rfl) | (apply q_ext; exact rfl; exact rfl; exact rfl))
    | (show SQ _ _ _ _ _ _ _ _; (first | (apply q_ldap; exact rfl; exact rfl; exact (ty rfl); exact rfl; exact rfl; exact (by first | rfl | assumption | ((try simp only [Nat.zero_add]); refine List.getElem?_set_self ?_; (try simp only [List.length_set]); assumption)); exact rfl) | (apply q_callU; exact rfl; exact rfl; exact rfl; rotate_left; exact hCP _; rotate_right; focus ((repeat' (first | exact FzL.nil | exact (by assumption : FzC _) _ | refine FzL.cons ?_ ?_ | exact Fz.of rfl | exact Fz.nil | exact Fz.emp | (apply Fz.fnC; assumption) | (apply Fz.sl2; exact rfl; exact (by first | omega | (simp; done) | (simp; omega)); first | exact rfl | exact dt_full (by first | omega | (simp; done) | (simp; omega)) | assumption) | apply Fz.agg | (apply Fz.ptrL; exact rfl; first | exact rfl | assumption) | apply Fz.fnL)); done))); (try simp only [put, rowsOf, plR, List.all_cons, selE, ovr, setH, del, cellsA, splice, isV, List.nil_append, List.cons_append, List.map_cons, List.map_nil, List.length_cons, List.length_nil, List.set_cons_zero, List.set_cons_succ, List.take_succ_cons, List.take_zero, List.take_nil, List.drop_succ_cons, List.drop_zero, List.drop_nil, List.append_nil, List.all_cons, List.all_nil, Bool.and_true, Bool.true_and, Bool.and_false, Bool.false_and, Nat.reduceAdd, Nat.zero_add, Nat.add_zero, Nat.reduceEqDiff, if_true, if_false, reduceIte]))
    | (show AW _ _ _ _ _ _ _ _; first | (refine aw_seqk ?_; intro K hK))
    | refine thn_n ?_
    | (refine hK _ _ _ ?_; clear hK K))); all_goals (repeat (clear hK K)))
  refine aw_region ?_
  ((repeat' (first
    | (show SQ _ _ _ _ _ _ _ _; first | apply sq_nil | (apply q_move; exact rfl; exact rfl) | (apply q_assign; exact rfl; exact rfl) | (apply q_ext; exact rfl; exact rfl; exact rfl))
    | (show SQ _ _ _ _ _ _ _ _; (first | (apply q_ldap; exact rfl; exact rfl; exact (ty rfl); exact rfl; exact rfl; exact (by first | rfl | assumption | ((try simp only [Nat.zero_add]); refine List.getElem?_set_self ?_; (try simp only [List.length_set]); assumption)); exact rfl) | (apply q_callU; exact rfl; exact rfl; exact rfl; exact FzL.of rfl; exact hW0 _)); (try simp only [put, rowsOf, plR, List.all_cons, selE, ovr, setH, del, cellsA, splice, isV, List.nil_append, List.cons_append, List.map_cons, List.map_nil, List.length_cons, List.length_nil, List.set_cons_zero, List.set_cons_succ, List.take_succ_cons, List.take_zero, List.take_nil, List.drop_succ_cons, List.drop_zero, List.drop_nil, List.append_nil, List.all_cons, List.all_nil, Bool.and_true, Bool.true_and, Bool.and_false, Bool.false_and, Nat.reduceAdd, Nat.zero_add, Nat.add_zero, Nat.reduceEqDiff, if_true, if_false, reduceIte]))
    | (show AW _ _ _ _ _ _ _ _; first | (refine aw_seqk ?_; intro K hK))
    | refine thn_n ?_
    | (refine hK _ _ _ ?_; clear hK K))); all_goals (repeat (clear hK K)))
  refine aw_region ?_
  ((repeat' (first
    | (show SQ _ _ _ _ _ _ _ _; first | apply sq_nil | (apply q_move; exact rfl; exact rfl) | (apply q_assign; exact rfl; exact rfl) | (apply q_ext; exact rfl; exact rfl; exact rfl))
    | (show SQ _ _ _ _ _ _ _ _; (first | (apply q_ldap; exact rfl; exact rfl; exact (ty rfl); exact rfl; exact rfl; exact (by first | rfl | assumption | ((try simp only [Nat.zero_add]); refine List.getElem?_set_self ?_; (try simp only [List.length_set]); assumption)); exact rfl) | (apply q_callU; exact rfl; exact rfl; exact rfl; exact FzL.of rfl; exact hHi _)); (try simp only [put, rowsOf, plR, List.all_cons, selE, ovr, setH, del, cellsA, splice, isV, List.nil_append, List.cons_append, List.map_cons, List.map_nil, List.length_cons, List.length_nil, List.set_cons_zero, List.set_cons_succ, List.take_succ_cons, List.take_zero, List.take_nil, List.drop_succ_cons, List.drop_zero, List.drop_nil, List.append_nil, List.all_cons, List.all_nil, Bool.and_true, Bool.true_and, Bool.and_false, Bool.false_and, Nat.reduceAdd, Nat.zero_add, Nat.add_zero, Nat.reduceEqDiff, if_true, if_false, reduceIte]))
    | (show AW _ _ _ _ _ _ _ _; first | (refine aw_seqk ?_; intro K hK))
    | refine thn_n ?_
    | (refine hK _ _ _ ?_; clear hK K))); all_goals (repeat (clear hK K)))
  refine aw_region ?_
  ((repeat' (first
    | (show SQ _ _ _ _ _ _ _ _; (first | (apply q_ldap; exact rfl; exact rfl; exact (ty rfl); exact rfl; exact rfl; exact (by first | rfl | assumption | ((try simp only [Nat.zero_add]); refine List.getElem?_set_self ?_; (try simp only [List.length_set]); assumption)); exact rfl)); (try simp only [put, rowsOf, plR, List.all_cons, selE, ovr, setH, del, cellsA, splice, isV, List.nil_append, List.cons_append, List.map_cons, List.map_nil, List.length_cons, List.length_nil, List.set_cons_zero, List.set_cons_succ, List.take_succ_cons, List.take_zero, List.take_nil, List.drop_succ_cons, List.drop_zero, List.drop_nil, List.append_nil, List.all_cons, List.all_nil, Bool.and_true, Bool.true_and, Bool.and_false, Bool.false_and, Nat.reduceAdd, Nat.zero_add, Nat.add_zero, Nat.reduceEqDiff, if_true, if_false, reduceIte])))); all_goals (repeat (clear hK K)))
  refine q_callN (u := [(4, niB 4 (adO a))]) (Ut := nst 5 (niT (adO a))) rfl rfl rfl (FzL.cons (Fz.of rfl) FzL.nil) (hAd _) ?_
  ((repeat' (first
    | (show SQ _ _ _ _ _ _ _ _; first | apply sq_nil | (apply q_move; exact rfl; exact rfl) | (apply q_assign; exact rfl; exact rfl) | (apply q_ext; exact rfl; exact rfl; exact rfl))
    | (show AW _ _ _ _ _ _ _ _; first | (refine aw_seqk ?_; intro K hK))
    | refine thn_n ?_
    | (refine hK _ _ _ ?_; clear hK K))); all_goals (repeat (clear hK K)))
  have hOl := adO_len hok
  have hOs := adO_sym hok
  have hOv := adO_valid hok
  have hOS := adO_S hok
  have hSy := Symmetric_ro (adO a) hOS hOv
  rw [hOs] at hSy
  have hSC := ServerCells_ro a ha hok
  have hS1 := b10Sum_ro (bkF (svN a).toNat (svG a) (covL a).length) (by rw [bkF_len]; obtain ⟨v1, v2, _⟩ := svN_bd hok; omega) (bk_small hok)
  rw [sc_sum hok] at hS1
  have hS2 := b10Sum_ro (bkF 60 (hsG a) (covL a).length) (by rw [bkF_len]; omega) (bk_small hok)
  have hS3 := hs_sum hok
  have hwk := weak_all (r := a) (l := -300000) fun j hj _ => by have := r9 j hj; omega
  have hwl := wkF_len a (-300000) a.sv.length
  have hcl := covF_len a.sv a.sv.length
  change (covL a).length ≤ a.sv.length at hcl
  have hbl := bkF_len 60 (hsG a) (covL a).length
  have hbl2 := bkF_len (svN a).toNat (svG a) (covL a).length
  generalize adO a = os at *
  apply aw_frzS (k0 := 4) (ls := os) 20 [(0, _), (2, _), (3, _)]
  exact rfl
  exact rfl
  exact .cons (by omega) (.cons (by omega) (.cons (by omega) (.cons (by omega) (.cons (by omega) .here'))))
  exact hOl.symm
  exact ⟨rfl, rfl, rfl, trivial⟩
  exact rfl
  refine aw_weak (ρ := id) (T' := [(20, .dsl 1 (nbL os)), (21, .v (.int .i64 0)), (18, .sl 3 0 60), (19, .v (.int .i64 0)), (16, .sl 2 0 (wkF a (-300000) a.sv.length).length), (17, .v (.int .i64 0)), (14, .v (.int .i64 ((covL a).length : Int))), (15, .v (.int .i64 0)), (11, .v (.int .i64 ((covL a).length : Int))), (1, .dsl 1 (byL ms)), (5, .ptr 0 0 0)]) (H' := [(0, ⟨26, 5, false, [[.v (.int .i64 a.st), .v (.int .i64 a.wd), .v (.int .i64 a.ht), .dsl 1 (a.sv.map inL), .dsl 1 (a.lv.map inL)]]⟩), (2, ⟨2, 1, true, (wkF a (-300000) a.sv.length).map inL⟩), (3, ⟨2, 1, true, (bkF 60 (hsG a) (covL a).length).map inL⟩)]) (n' := 4) ⟨by (repeat (refine ⟨by first | exact lk_i rfl rfl | exact lk_d rfl rfl | exact lk_r rfl rfl rfl | exact lk_s rfl rfl rfl rfl, ?_⟩)); exact trivial, by (repeat (refine ⟨by first | exact ⟨rfl, rfl, rfl⟩, ?_⟩)); exact trivial, by rfl, by exact pin_0⟩ ?_
  unfold rasL at hSC
  have m1 : (((covL a).length : Int) != ((covL a).length : Int)) = false := by simp
  have m2 : ((((wkF a (-300000) a.sv.length).length : Nat) : Int) != IntKind.i64.wrap (((a.sv.map inL).length : Int) - ((covL a).length : Int))) = false := by
    rw [l1, IntWalk.i64_in _ (by omega), hwk]; simp
  have m3 : decide (((covL a).length : Int) < (bkF 60 (hsG a) (covL a).length).sum) = false := by rw [decide_eq_false_iff_not]; omega
  have m4 : (IntKind.i64.wrap (IntKind.i64.wrap (((covL a).length : Int) * a.st) * a.st) != IntKind.i64.wrap (IntKind.i64.wrap (((covL a).length : Int) * a.st) * a.st)) = false := by simp
  have z1 : ((0 : Int) != 0) = false := rfl
  have hml1 : ((bkF 60 (hsG a) (covL a).length).map inL).length = 60 := by rw [List.length_map]; exact hbl
  have hml2 : ((bkF (svN a).toNat (svG a) (covL a).length).map inL).length = (svN a).toNat := by rw [List.length_map]; exact hbl2
  ((repeat' (first
    | (show DE _ _ _ _ _ _ _ _ _ _ _ _; first | (apply e_move; exact rfl; exact rfl; exact rfl) | (apply e_pick_f; exact rfl; exact rfl; exact rfl; exact (by first | assumption | exact rfl); exact rfl) | (apply e_fieldAddr; exact rfl; exact rfl; exact (ty rfl); exact rfl; exact rfl; exact rfl; exact rfl; exact rfl) | (apply e_lend; exact rfl; exact rfl; exact (ty rfl); exact rfl; exact rfl) | (apply e_lenl; exact rfl; exact rfl; exact (ty rfl); exact rfl; exact rfl) | (apply e_sub; exact rfl; exact rfl; exact rfl; exact rfl) | (apply e_mul; exact rfl; exact rfl; exact rfl; exact rfl) | (apply e_neq; exact rfl; exact rfl; exact rfl; exact rfl) | (apply e_gtr; exact rfl; exact rfl; exact rfl; exact rfl) | (apply e_ld1p; exact rfl; exact rfl; exact (ty rfl); exact rfl; exact rfl; exact (by first | rfl | assumption | ((try simp only [Nat.zero_add]); refine List.getElem?_set_self ?_; (try simp only [List.length_set]); assumption)); exact rfl; exact rfl) | (apply e_g; exact rfl; exact rfl; exact rfl; exact (by assumption)))
    | (show DE _ _ _ _ _ _ _ _ _ _ _ _; (first | (apply dr_nil; exact trivial) | (apply e_ldap; exact rfl; exact rfl; exact (ty rfl); exact rfl; exact rfl; exact (by first | rfl | assumption | ((try simp only [Nat.zero_add]); refine List.getElem?_set_self ?_; (try simp only [List.length_set]); assumption)); exact rfl; exact rfl) | (apply e_callU; exact rfl; exact rfl; exact rfl; exact FzL.of rfl; exact hSC _; exact rfl) | (apply e_callU; exact rfl; exact rfl; exact rfl; exact FzL.of rfl; exact hAr _; exact rfl) | (apply e_callU; exact rfl; exact rfl; exact rfl; rotate_left; exact hS1 _; exact rfl; rotate_right; focus ((repeat' (first | exact FzL.nil | exact (by assumption : FzC _) _ | refine FzL.cons ?_ ?_ | exact Fz.of rfl | exact Fz.nil | exact Fz.emp | (apply Fz.fnC; assumption) | (apply Fz.sl2; exact rfl; exact (by first | omega | (simp; done) | (simp; omega)); first | exact rfl | exact dt_full (by first | omega | (simp; done) | (simp; omega)) | assumption) | apply Fz.agg | (apply Fz.ptrL; exact rfl; first | exact rfl | assumption) | apply Fz.fnL)); done)) | (apply e_callU; exact rfl; exact rfl; exact rfl; rotate_left; exact hS2 _; exact rfl; rotate_right; focus ((repeat' (first | exact FzL.nil | exact (by assumption : FzC _) _ | refine FzL.cons ?_ ?_ | exact Fz.of rfl | exact Fz.nil | exact Fz.emp | (apply Fz.fnC; assumption) | (apply Fz.sl2; exact rfl; exact (by first | omega | (simp; done) | (simp; omega)); first | exact rfl | exact dt_full (by first | omega | (simp; done) | (simp; omega)) | assumption) | apply Fz.agg | (apply Fz.ptrL; exact rfl; first | exact rfl | assumption) | apply Fz.fnL)); done))); (try simp only [put, rowsOf, plR, List.all_cons, selE, ovr, setH, del, cellsA, splice, isV, List.nil_append, List.cons_append, List.map_cons, List.map_nil, List.length_cons, List.length_nil, List.set_cons_zero, List.set_cons_succ, List.take_succ_cons, List.take_zero, List.take_nil, List.drop_succ_cons, List.drop_zero, List.drop_nil, List.append_nil, List.all_cons, List.all_nil, Bool.and_true, Bool.true_and, Bool.and_false, Bool.false_and, Nat.reduceAdd, Nat.zero_add, Nat.add_zero, Nat.reduceEqDiff, if_true, if_false, reduceIte]))
    | (show AW _ _ _ _ _ _ _ _; first | (refine aw_seqk ?_; intro K hK) | (apply aw_cond_f; exact rfl; exact (by assumption)) | refine aw_skip ?_ | refine aw_drawE (id := 20) [0, 0, 2, 6, 15, 31, 63, 127, 255, 511, 1023, 1023, 4095, 8191, 16383, 32767, 65535, 131071, 262143, 524287, 1048575, 524287, 2621439, 6815743, 524287, 31981567, 67108863, 134217727, 268435455, 536870911, 1073741823, 2147483647, 4294967295, 8589934591, 17179869183, 8589934591, 68719476735, 137438953471, 274877906943, 549755813887, 1099511627775, 549755813887, 549755813887, 4947802324991, 15942918602751, 549755813887, 35734127902719, 139088220913663, 281474976710655, 562949953421311] [0, 1, 1, 1, 0, 0, 0, 0, 0, 0, 0, 0, 0, 0, 0, 0, 0, 0, 0, 0, 0, 0, 1, 0, 0, 0, 0, 0, 0, 0, 0, 0, 0, 0, 1, 0, 0, 0, 0, 1, 1, 0, 0, 1, 0, 0, 1, 0, 0, 0] mixed (by kernel_rfl) ?_)
    | refine thn_n ?_
    | (refine hK _ _ _ ?_; clear hK K))); all_goals (repeat (clear hK K)))
  refine aw_weak (ρ := id) (T' := [(20, .dsl 1 (nbL os)), (21, .v (.int .i64 0)), (11, .v (.int .i64 ((covL a).length : Int))), (1, .dsl 1 (byL ms)), (5, .ptr 0 0 0)]) (H' := [(0, ⟨26, 5, false, [[.v (.int .i64 a.st), .v (.int .i64 a.wd), .v (.int .i64 a.ht), .dsl 1 (a.sv.map inL), .dsl 1 (a.lv.map inL)]]⟩)]) (n' := 1) ⟨by (repeat (refine ⟨by first | exact lk_i rfl rfl | exact lk_d rfl rfl | exact lk_r rfl rfl rfl, ?_⟩)); exact trivial, by (repeat (refine ⟨by first | exact ⟨rfl, rfl, rfl⟩, ?_⟩)); exact trivial, by rfl, by exact pin_0⟩ ?_
  clear m1 m2 m3 m4 hml1 hml2 hS1 hS2 hSC hHi hCP hW0 hwk hwl hbl hbl2 hS3
  refine aw_region ?_
  ((repeat' (first
    | (show SQ _ _ _ _ _ _ _ _; first | (apply q_move; exact rfl; exact rfl)))); all_goals (repeat (clear hK K)))
  refine q_callN (u := [(1, niB 1 os)]) (Ut := nst 2 (niT os)) rfl rfl rfl (FzL.cons (Fz.of rfl) FzL.nil) (hSy _) ?_
  ((repeat' (first
    | (show SQ _ _ _ _ _ _ _ _; first | apply sq_nil | (apply q_move; exact rfl; exact rfl) | (apply q_assign; exact rfl; exact rfl) | (apply q_ext; exact rfl; exact rfl; exact rfl))
    | (show AW _ _ _ _ _ _ _ _; first | (refine aw_seqk ?_; intro K hK))
    | refine thn_n ?_
    | (refine hK _ _ _ ?_; clear hK K))); all_goals (repeat (clear hK K)))
  apply aw_frzS (k0 := 1) (ls := os) 22 [(0, _)]
  exact rfl
  exact rfl
  exact .cons (by omega) (.cons (by omega) .here')
  exact rfl
  exact ⟨rfl, trivial⟩
  exact rfl
  have hVN := ValidNeighbours_ro os hOS
  rw [hOv] at hVN
  have hBL := b10Lists_ro os hOS.n hOS.m
  refine aw_region ?_
  ((repeat' (first
    | (show SQ _ _ _ _ _ _ _ _; first | apply sq_nil | (apply q_move; exact rfl; exact rfl) | (apply q_pick_f; exact rfl; exact rfl; exact rfl; exact (by first | assumption | exact rfl)) | (apply q_not; exact rfl; exact rfl) | (apply q_neq; exact rfl; exact rfl; exact rfl) | (apply q_g; exact rfl; exact rfl; exact rfl; exact (by assumption)))
    | (show SQ _ _ _ _ _ _ _ _; (first | (apply q_callU; exact rfl; exact rfl; exact rfl; exact FzL.of rfl; exact hVN _) | (apply q_callU; exact rfl; exact rfl; exact rfl; exact FzL.of rfl; exact hBL _)); (try simp only [put, rowsOf, plR, List.all_cons, selE, ovr, setH, del, cellsA, splice, isV, List.nil_append, List.cons_append, List.map_cons, List.map_nil, List.length_cons, List.length_nil, List.set_cons_zero, List.set_cons_succ, List.take_succ_cons, List.take_zero, List.take_nil, List.drop_succ_cons, List.drop_zero, List.drop_nil, List.append_nil, List.all_cons, List.all_nil, Bool.and_true, Bool.true_and, Bool.and_false, Bool.false_and, Nat.reduceAdd, Nat.zero_add, Nat.add_zero, Nat.reduceEqDiff, if_true, if_false, reduceIte]))
    | (show AW _ _ _ _ _ _ _ _; first | (refine aw_seqk ?_; intro K hK) | (apply aw_cond_f; exact rfl; exact rfl) | refine aw_skip ?_)
    | refine thn_n ?_
    | (refine hK _ _ _ ?_; clear hK K))); all_goals (repeat (clear hK K)))
  refine aw_weak (ρ := id) (T' := [(11, .v (.int .i64 ((covL a).length : Int))), (1, .dsl 1 (byL ms)), (5, .ptr 0 0 0)]) (H' := [(0, ⟨26, 5, false, [[.v (.int .i64 a.st), .v (.int .i64 a.wd), .v (.int .i64 a.ht), .dsl 1 (a.sv.map inL), .dsl 1 (a.lv.map inL)]]⟩)]) (n' := 1) ⟨by (repeat (refine ⟨by first | exact lk_i rfl rfl | exact lk_d rfl rfl | exact lk_r rfl rfl rfl, ?_⟩)); exact trivial, by (repeat (refine ⟨by first | exact ⟨rfl, rfl, rfl⟩, ?_⟩)); exact trivial, by rfl, by exact pin_0⟩ ?_
  clear hVN hBL hSy hAd hOl hOs hOv hOS hVs hCv hAr
  have hBt := b10At_ro ms hb2 hn2 0 256 (by omega) (by omega) (by omega)
  have hbd := bt8_bd ms 0 256 (by omega)
  generalize bt8 ms 0 256 = x at *
  have hw1 : IntKind.i64.wrap (3900 * x) = 3900 * x := IntWalk.i64_in _ (by omega)
  have hw2 : IntKind.i64.wrap (1 + IntKind.i64.wrap (3900 * x)) = 1 + 3900 * x := by rw [hw1]; exact IntWalk.i64_in _ (by omega)
  have hsh : inB (IntKind.i64.wrap (1 + IntKind.i64.wrap (3900 * x))) 1 1000000 = true := by
    rw [hw2]
    unfold inB
    simp only [Bool.and_eq_true, decide_eq_true_eq]
    omega
  generalize hsv : IntKind.i64.wrap (1 + IntKind.i64.wrap (3900 * x)) = sh at *
  by_cases hc : (covL a).length = 0
  · have hP1 := PercentileLevel_none_ro a ha hok hc sh hsh
    have hP2 := PercentileLevel_none_ro a ha hok hc 1000000 rfl
    have b5 : (((covL a).length : Int) == 0) = true := by rw [hc]; rfl
    unfold rasL at hP1 hP2
    refine aw_region ?_
    subst hsv
    ((repeat' (first
    | (show SQ _ _ _ _ _ _ _ _; first | apply sq_nil | (apply q_move; exact rfl; exact rfl) | (apply q_assign; exact rfl; exact rfl) | (apply q_pick_t; exact rfl; exact rfl; exact rfl; exact (by first | assumption | exact rfl)) | (apply q_ext; exact rfl; exact rfl; exact rfl) | (apply q_add; exact rfl; exact rfl; exact rfl) | (apply q_mul; exact rfl; exact rfl; exact rfl) | (apply q_eql; exact rfl; exact rfl; exact rfl) | (apply q_g; exact rfl; exact rfl; exact rfl; exact rfl))
    | (show SQ _ _ _ _ _ _ _ _; (first | (apply q_ldap; exact rfl; exact rfl; exact (ty rfl); exact rfl; exact rfl; exact (by first | rfl | assumption | ((try simp only [Nat.zero_add]); refine List.getElem?_set_self ?_; (try simp only [List.length_set]); assumption)); exact rfl) | (apply q_callU; exact rfl; exact rfl; exact rfl; exact FzL.of rfl; exact hBt _) | (apply q_callU; exact rfl; exact rfl; exact rfl; exact FzL.of rfl; exact hP1 _) | (apply q_callU; exact rfl; exact rfl; exact rfl; exact FzL.of rfl; exact hP2 _)); (try simp only [put, rowsOf, plR, List.all_cons, selE, ovr, setH, del, cellsA, splice, isV, List.nil_append, List.cons_append, List.map_cons, List.map_nil, List.length_cons, List.length_nil, List.set_cons_zero, List.set_cons_succ, List.take_succ_cons, List.take_zero, List.take_nil, List.drop_succ_cons, List.drop_zero, List.drop_nil, List.append_nil, List.all_cons, List.all_nil, Bool.and_true, Bool.true_and, Bool.and_false, Bool.false_and, Nat.reduceAdd, Nat.zero_add, Nat.add_zero, Nat.reduceEqDiff, if_true, if_false, reduceIte]))
    | (show AW _ _ _ _ _ _ _ _; first | refine aw_region ?_ | (refine aw_seqk ?_; intro K hK) | (apply aw_cond_t; exact rfl; exact (by assumption)) | refine aw_ret ?_)
    | refine thn_n ?_
    | (refine hK _ _ _ ?_; clear hK K)
    | refine thn_r ?_)); all_goals (repeat (clear hK K)))
    all_goals exact fin_r (fin_b rfl rfl)
  · obtain ⟨i, hi, _, hP1⟩ := PercentileLevel_ex a ha hok (by omega) sh hsh
    obtain ⟨j, hj, hje, hP2⟩ := PercentileLevel_ex a ha hok (by omega) 1000000 rfl
    have hje := hje rfl
    have hW := WeakCells_ro a ha hok ((dsc a).getD j 0) (dsc_in hok hj)
    have hle := dsc_le (r := a) (i := i) (j := j) (by omega) hj
    have hwk := weak_all (r := a) (l := (dsc a).getD j 0) fun q hq h0 => by
      have := dsc_least (r := a) (by omega) hq h0
      rwa [show (covL a).length - 1 = j by omega] at this
    have hwl := wkF_len a ((dsc a).getD j 0) a.sv.length
    generalize (dsc a).getD j 0 = w at *
    generalize (dsc a).getD i 0 = v at *
    have b5 : (((covL a).length : Int) == 0) = false := by rw [beq_eq_false_iff_ne]; omega
    have b6 : decide (w ≤ v) = true := by simpa using hle
    have b7 : ((((wkF a w a.sv.length).length : Nat) : Int) == IntKind.i64.wrap (((a.sv.map inL).length : Int) - ((covL a).length : Int))) = true := by
      rw [l1, IntWalk.i64_in _ (by omega), hwk]; simp
    unfold rasL at hP1 hP2 hW
    refine aw_region ?_
    subst hsv
    ((repeat' (first
    | (show SQ _ _ _ _ _ _ _ _; first | apply sq_nil | (apply q_move; exact rfl; exact rfl) | (apply q_assign; exact rfl; exact rfl) | (apply q_pick_t; exact rfl; exact rfl; exact rfl; exact (by first | assumption | exact rfl)) | (apply q_fieldAddr; exact rfl; exact rfl; exact (ty rfl); exact rfl; exact rfl; exact rfl; exact rfl) | (apply q_ext; exact rfl; exact rfl; exact rfl) | (apply q_lend; exact rfl; exact rfl; exact (ty rfl); exact rfl) | (apply q_lenl; exact rfl; exact rfl; exact (ty rfl); exact rfl) | (apply q_add; exact rfl; exact rfl; exact rfl) | (apply q_sub; exact rfl; exact rfl; exact rfl) | (apply q_mul; exact rfl; exact rfl; exact rfl) | (apply q_eql; exact rfl; exact rfl; exact rfl) | (apply q_geq; exact rfl; exact rfl; exact rfl) | (apply q_ld1p; exact rfl; exact rfl; exact (ty rfl); exact rfl; exact rfl; exact (by first | rfl | assumption | ((try simp only [Nat.zero_add]); refine List.getElem?_set_self ?_; (try simp only [List.length_set]); assumption)); exact rfl) | (apply q_g; exact rfl; exact rfl; exact rfl; exact (by assumption)) | (apply q_g; exact rfl; exact rfl; exact rfl; exact rfl))
    | (show SQ _ _ _ _ _ _ _ _; (first | (apply q_ldap; exact rfl; exact rfl; exact (ty rfl); exact rfl; exact rfl; exact (by first | rfl | assumption | ((try simp only [Nat.zero_add]); refine List.getElem?_set_self ?_; (try simp only [List.length_set]); assumption)); exact rfl) | (apply q_callU; exact rfl; exact rfl; exact rfl; exact FzL.of rfl; exact hBt _) | (apply q_callU; exact rfl; exact rfl; exact rfl; exact FzL.of rfl; exact hP1 _) | (apply q_callU; exact rfl; exact rfl; exact rfl; exact FzL.of rfl; exact hP2 _) | (apply q_callU; exact rfl; exact rfl; exact rfl; exact FzL.of rfl; exact hW _)); (try simp only [put, rowsOf, plR, List.all_cons, selE, ovr, setH, del, cellsA, splice, isV, List.nil_append, List.cons_append, List.map_cons, List.map_nil, List.length_cons, List.length_nil, List.set_cons_zero, List.set_cons_succ, List.take_succ_cons, List.take_zero, List.take_nil, List.drop_succ_cons, List.drop_zero, List.drop_nil, List.append_nil, List.all_cons, List.all_nil, Bool.and_true, Bool.true_and, Bool.and_false, Bool.false_and, Nat.reduceAdd, Nat.zero_add, Nat.add_zero, Nat.reduceEqDiff, if_true, if_false, reduceIte]))
    | (show AW _ _ _ _ _ _ _ _; first | refine aw_region ?_ | (refine aw_seqk ?_; intro K hK) | (apply aw_cond_f; exact rfl; exact (by assumption)) | refine aw_ret ?_ | refine aw_skip ?_)
    | refine thn_n ?_
    | (refine hK _ _ _ ?_; clear hK K))); all_goals (repeat (clear hK K)))
    all_goals exact fin_r (fin_b rfl b7)
end Go.Proofs.Ytljpgbgokjiamaa.St

namespace Go.Proofs.Ytljpgbgokjiamaa.St
open Go Go.RowKit Go.Proofs.Ytljpgbgokjiamaa.Aw Go.Proofs.Ytljpgbgokjiamaa.In Go.Proofs.Ytljpgbgokjiamaa.Il Go.Proofs.Ytljpgbgokjiamaa.Sr Go.Proofs.Ytljpgbgokjiamaa.Nb
set_option linter.unusedSimpArgs false
set_option linter.unusedVariables false
attribute [local irreducible] AW SQ Step RO RC DE Thn InB
theorem closeFnStatistics (v u : Value) (w : World) (h : Fr.IsBytes w v) (h2 : Fr.IsBytes w u) : Calls Try.prog 3 #[v, u] w fun r w' => r = .returned (.bool true) ∧ Below w.heap.size w w' := by
  obtain ⟨xs, hv, hs, hn⟩ := h
  obtain ⟨ys, hv2, hs2, hn2⟩ := h2
  exact RO.calls (k := 0) (lawStat_ro xs ys hs hn hs2 hn2 0) (K := fun k => k < w.heap.size) (fun _ h => h) (VRs.cons hv (VRs.cons hv2 VRs.nil))
end Go.Proofs.Ytljpgbgokjiamaa.St
