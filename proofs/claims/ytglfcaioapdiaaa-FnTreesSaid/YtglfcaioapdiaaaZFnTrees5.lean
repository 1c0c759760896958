/-
  What the law FnTrees rests on, part 5.
-/
import Derived.Test.YtglfcaioapdiaaaZFnTrees4
namespace Go.Proofs.Ytglfcaioapdiaaa.Bk
open Go Go.RowKit Go.Proofs.Ytglfcaioapdiaaa.Aw
set_option linter.unusedSimpArgs false
set_option linter.unusedVariables false
attribute [local irreducible] AW SQ Step RO RC DE Thn InB
theorem lsw_perm {xs : List Int} {i j : Nat} (hi : i < xs.length) (hj : j < xs.length) : (lsw xs i j).Perm xs := by
  have e1 : xs.getD i 0 = xs[i] := by simp [List.getD, hi]
  have e2 : xs.getD j 0 = xs[j] := by simp [List.getD, hj]
  unfold lsw
  rw [e1, e2, List.perm_iff_count]
  intro x
  rw [List.count_set (by simpa using hj), List.count_set hi, List.getElem_set]
  have ci : xs[i] = x → 0 < xs.count x := fun h => List.count_pos_iff.2 (h ▸ List.getElem_mem hi)
  have cj : xs[j] = x → 0 < xs.count x := fun h => List.count_pos_iff.2 (h ▸ List.getElem_mem hj)
  by_cases hij : i = j
  · subst hij
    rw [if_pos rfl]
    by_cases h1 : xs[i] = x
    · have := ci h1; simp [h1]; omega
    · simp [h1]
  · rw [if_neg hij]
    by_cases h1 : xs[i] = x
    · have := ci h1
      by_cases h2 : xs[j] = x
      · simp [h1, h2]; omega
      · simp [h1, h2]; omega
    · by_cases h2 : xs[j] = x
      · have := cj h2; simp [h1, h2]
      · simp [h1, h2]
theorem swR_perm {xs : List Int} {a b : Nat} : ∀ {m : Nat}, a + m ≤ xs.length → b + m ≤ xs.length → (swR xs a b m).Perm xs
  | 0, _, _ => .refl _
  | m + 1, ha, hb => (lsw_perm (by rw [swR_len]; omega) (by rw [swR_len]; omega)).trans (swR_perm (m := m) (by omega) (by omega))
theorem rotF_perm {m : Nat} : ∀ {f i j : Nat} {xs : List Int}, i ≤ m → m + j ≤ xs.length → (rotF m f i j xs).Perm xs
  | 0, i, j, xs, _, _ => .refl _
  | f + 1, i, j, xs, hi, hj => by
    rw [rotF]
    split
    · exact swR_perm (by omega) (by omega)
    · split
      · exact (rotF_perm (f := f) (by omega) (by rw [swR_len]; exact hj)).trans (swR_perm (by omega) (by omega))
      · exact (rotF_perm (f := f) hi (by rw [swR_len]; omega)).trans (swR_perm (by omega) (by omega))
theorem bubU_perm {xs : List Int} {a : Nat} : ∀ {c : Nat}, a + c < xs.length ∨ c = 0 → (bubU xs a c).Perm xs
  | 0, _ => .refl _
  | c + 1, h => (lsw_perm (by rw [bubU_len]; omega) (by rw [bubU_len]; omega)).trans (bubU_perm (by omega))
theorem bubD_perm {xs : List Int} {m : Nat} (hm : m < xs.length) : ∀ {c : Nat}, (bubD xs m c).Perm xs
  | 0 => .refl _
  | c + 1 => (lsw_perm (by rw [bubD_len]; omega) (by rw [bubD_len]; omega)).trans (bubD_perm hm)
def symS (lt : Int → Int → Bool) (a m b : Nat) (xs : List Int) : Nat :=
  bisF (fun c => !lt (xs.getD ((a + b) / 2 + m - 1 - c) 0) (xs.getD c 0)) ((if (a + b) / 2 < m then (a + b) / 2 else m) - (if (a + b) / 2 < m then (a + b) / 2 + m - b else a)) (if (a + b) / 2 < m then (a + b) / 2 + m - b else a) (if (a + b) / 2 < m then (a + b) / 2 else m)
theorem symS_in {lt : Int → Int → Bool} {a m b : Nat} {xs : List Int} (h1 : a < m) (h2 : m < b) : a ≤ symS lt a m b xs ∧ symS lt a m b xs ≤ m ∧ m ≤ (a + b) / 2 + m - symS lt a m b xs ∧ (a + b) / 2 + m - symS lt a m b xs ≤ b ∧ symS lt a m b xs ≤ (a + b) / 2 + m := by
  unfold symS
  split
  · have := bisF_in (fun c => !lt (xs.getD ((a + b) / 2 + m - 1 - c) 0) (xs.getD c 0)) ((a + b) / 2 - ((a + b) / 2 + m - b)) ((a + b) / 2 + m - b) ((a + b) / 2) (by omega); omega
  · have := bisF_in (fun c => !lt (xs.getD ((a + b) / 2 + m - 1 - c) 0) (xs.getD c 0)) (m - a) a m (by omega); omega
def symX (lt : Int → Int → Bool) (a m b : Nat) (xs : List Int) : List Int :=
  if (decide (symS lt a m b xs < m) && decide (m < (a + b) / 2 + m - symS lt a m b xs)) = true then rotF m ((a + b) / 2 + m - symS lt a m b xs - symS lt a m b xs) (m - symS lt a m b xs) ((a + b) / 2 + m - symS lt a m b xs - m) xs else xs
def symF (lt : Int → Int → Bool) : Nat → Nat → Nat → Nat → List Int → List Int
  | 0, _, _, _, xs => xs
  | f + 1, a, m, b, xs => if m = a + 1 then bubU xs a (bisF (fun h => lt (xs.getD h 0) (xs.getD a 0)) (b - m) m b - 1 - a)
    else if b = m + 1 then bubD xs m (m - bisF (fun h => !lt (xs.getD m 0) (xs.getD h 0)) (m - a) a m)
    else if (decide ((a + b) / 2 < (a + b) / 2 + m - symS lt a m b xs) && decide ((a + b) / 2 + m - symS lt a m b xs < b)) = true
      then symF lt f ((a + b) / 2) ((a + b) / 2 + m - symS lt a m b xs) b (if (decide (a < symS lt a m b xs) && decide (symS lt a m b xs < (a + b) / 2)) = true then symF lt f a (symS lt a m b xs) ((a + b) / 2) (symX lt a m b xs) else symX lt a m b xs)
      else (if (decide (a < symS lt a m b xs) && decide (symS lt a m b xs < (a + b) / 2)) = true then symF lt f a (symS lt a m b xs) ((a + b) / 2) (symX lt a m b xs) else symX lt a m b xs)
theorem symX_perm {lt : Int → Int → Bool} {a m b : Nat} {xs : List Int} (h1 : a < m) (h2 : m < b) (hb : b ≤ xs.length) : (symX lt a m b xs).Perm xs := by
  have := symS_in (lt := lt) (xs := xs) h1 h2
  unfold symX
  split
  · exact rotF_perm (by omega) (by omega)
  · exact .refl _
theorem symF_perm {lt : Int → Int → Bool} : ∀ {f a m b : Nat} {xs : List Int}, a < m → m < b → b ≤ xs.length → (symF lt f a m b xs).Perm xs
  | 0, a, m, b, xs, _, _, _ => .refl _
  | f + 1, a, m, b, xs, h1, h2, hb => by
    have hs := symS_in (lt := lt) (xs := xs) h1 h2
    have hX := symX_perm (lt := lt) (xs := xs) h1 h2 hb
    have hXl := hX.length_eq
    rw [symF]
    split
    · have := bisF_in (fun h => lt (xs.getD h 0) (xs.getD a 0)) (b - m) m b (by omega)
      exact bubU_perm (by omega)
    · split
      · exact bubD_perm (by omega)
      · have hA : (if (decide (a < symS lt a m b xs) && decide (symS lt a m b xs < (a + b) / 2)) = true then symF lt f a (symS lt a m b xs) ((a + b) / 2) (symX lt a m b xs) else symX lt a m b xs).Perm xs := by
          split
          · rename_i hc
            simp only [Bool.and_eq_true, decide_eq_true_eq] at hc
            exact (symF_perm (f := f) hc.1 hc.2 (by omega)).trans hX
          · exact hX
        have hAl := hA.length_eq
        split
        · rename_i hc
          simp only [Bool.and_eq_true, decide_eq_true_eq] at hc
          exact (symF_perm (f := f) hc.1 hc.2 (by omega)).trans hA
        · exact hA
theorem Vd.perm {ls : List Ln} {xs ys : List Int} (h : Vd ls xs) (hp : ys.Perm xs) : Vd ls ys := fun x hx => h x (hp.mem_iff.1 hx)
set_option maxHeartbeats 4000000 in
theorem symMerge_rc (n : Int) (ls : List Ln) (hn : ls.length ≤ 1048576) : ∀ (f : Nat) (xs : List Int) (a m b : Nat), xs.length ≤ 1048576 → Vd ls xs → a < m → m < b → b ≤ xs.length → b - a ≤ f → ∀ bi k,
    RC Try.prog 131 [.sl bi 0 xs.length, .v (.int .i64 (a : Int)), .v (.int .i64 (m : Int)), .v (.int .i64 (b : Int)), stC n ls] [(bi, ⟨2, 1, true, xs.map inL⟩)] k (.tup [])
      [(bi, some ⟨2, 1, true, (symF (ltO ls) f a m b xs).map inL⟩)] k
  | 0, xs, a, m, b, hx, hv, ha, hm, hb, hf, bi, k => by omega
  | f + 1, xs, a, m, b, hx, hv, ha, hm, hb, hf, bi, k => by
    rw [symF]
    by_cases k1 : m = a + 1
    · rw [if_pos k1]; exact symU_rc n ls xs a m b hn hx hv k1.symm hm hb bi k
    rw [if_neg k1]
    by_cases k2 : b = m + 1
    · rw [if_pos k2]; exact symD_rc n ls xs a m b hn hx hv (by omega) k2.symm hb bi k
    rw [if_neg k2]
    have hI := symMerge_rc n ls hn f
    have hsi := symS_in (lt := ltO ls) (xs := xs) ha hm
    have hX := symX_perm (lt := ltO ls) (xs := xs) ha hm hb
    have hml : (xs.map inL).length = xs.length := List.length_map _
    have b0 : (IntKind.i64.wrap ((m : Int) - a) == 1) = false := by rw [IntWalk.i64_in _ (by omega), beq_eq_false_iff_ne]; omega
    have b00 : (IntKind.i64.wrap ((b : Int) - m) == 1) = false := by rw [IntWalk.i64_in _ (by omega), beq_eq_false_iff_ne]; omega
    have hmd := half_eq (i := a) (j := b) (by omega)
    have hXd : symX (ltO ls) a m b xs = if (decide (symS (ltO ls) a m b xs < m) && decide (m < (a + b) / 2 + m - symS (ltO ls) a m b xs)) = true then rotF m ((a + b) / 2 + m - symS (ltO ls) a m b xs - symS (ltO ls) a m b xs) (m - symS (ltO ls) a m b xs) ((a + b) / 2 + m - symS (ltO ls) a m b xs - m) xs else xs := rfl
    have hSd : symS (ltO ls) a m b xs = bisF (fun c => !ltO ls (xs.getD ((a + b) / 2 + m - 1 - c) 0) (xs.getD c 0)) ((if (a + b) / 2 < m then (a + b) / 2 else m) - (if (a + b) / 2 < m then (a + b) / 2 + m - b else a)) (if (a + b) / 2 < m then (a + b) / 2 + m - b else a) (if (a + b) / 2 < m then (a + b) / 2 else m) := rfl
    generalize hQ : (if (decide ((a + b) / 2 < (a + b) / 2 + m - symS (ltO ls) a m b xs) && decide ((a + b) / 2 + m - symS (ltO ls) a m b xs < b)) = true
      then symF (ltO ls) f ((a + b) / 2) ((a + b) / 2 + m - symS (ltO ls) a m b xs) b (if (decide (a < symS (ltO ls) a m b xs) && decide (symS (ltO ls) a m b xs < (a + b) / 2)) = true then symF (ltO ls) f a (symS (ltO ls) a m b xs) ((a + b) / 2) (symX (ltO ls) a m b xs) else symX (ltO ls) a m b xs)
      else (if (decide (a < symS (ltO ls) a m b xs) && decide (symS (ltO ls) a m b xs < (a + b) / 2)) = true then symF (ltO ls) f a (symS (ltO ls) a m b xs) ((a + b) / 2) (symX (ltO ls) a m b xs) else symX (ltO ls) a m b xs)) = Q
    generalize symX (ltO ls) a m b xs = X at *
    generalize symS (ltO ls) a m b xs = S at *
    have hdl : a < (a + b) / 2 ∧ (a + b) / 2 < b ∧ (a + b) / 2 * 2 ≤ a + b ∧ a + b ≤ (a + b) / 2 * 2 + 1 := by omega
    generalize (a + b) / 2 = d at *
    have hwn : IntKind.i64.wrap ((d : Int) + m) = ((d + m : Nat) : Int) := by rw [IntWalk.i64_in _ (by omega)]; omega
    have hwp : IntKind.i64.wrap (((d + m : Nat) : Int) - 1) = ((d + m - 1 : Nat) : Int) := by rw [IntWalk.i64_in _ (by omega)]; omega
    have hwb : IntKind.i64.wrap (((d + m : Nat) : Int) - b) = ((d + m : Nat) : Int) - b := IntWalk.i64_in _ (by omega)
    refine RC.ofc [bi] 0 [.sl 0 0 xs.length, .v (.int .i64 (a : Int)), .v (.int .i64 (m : Int)), .v (.int .i64 (b : Int)), stC n ls] [(0, ⟨2, 1, true, xs.map inL⟩)] (.tup []) [(0, some ⟨2, 1, true, Q.map inL⟩)] Try.func131 Try.ntmps131 rfl (goFn_of Try.func131 rfl (by kernel_rfl)) rfl rfl rfl rfl rfl rfl rfl rfl (by simp_all) rfl ?_
    have key : ∀ (s0 r0 : Nat), (if d < m then d + m - b else a) = s0 → (if d < m then d else m) = r0 → a ≤ s0 ∧ s0 ≤ r0 ∧ r0 ≤ m ∧ r0 ≤ d ∧ d + m - b ≤ s0 ∧ d + m ≤ b + s0 := by intro s0 r0 e1 e2; split at e1 <;> split at e2 <;> omega
    by_cases k3 : d < m
    · have b3 : decide ((d : Int) < (m : Int)) = true := by simpa using k3
      rw [← hmd] at b3
      ((repeat' (first
    | (show SQ _ _ _ _ _ _ _ _; first | apply sq_nil | (apply q_move; exact rfl; exact rfl) | (apply q_assign; exact rfl; exact rfl) | (apply q_conv; exact rfl; exact rfl; exact (ty rfl); exact rfl; exact (ty rfl)) | (apply q_add; iterate 3 exact rfl) | (apply q_sub; iterate 3 exact rfl) | (apply q_eql; iterate 3 exact rfl) | (apply q_gtr; iterate 3 exact rfl) | (apply q_shr; (iterate 3 exact rfl); exact (by first | omega | (simp; done) | (simp; omega))))
    | (show AW _ _ _ _ _ _ _ _; first | refine aw_region ?_ | (refine aw_seqk ?_; intro K hK) | refine aw_block ?_ | (apply aw_cond_t; exact rfl; exact (by assumption)) | (apply aw_cond_f; exact rfl; exact (by assumption)) | refine aw_skip ?_)
    | refine thn_n ?_
    | (refine hK _ _ _ ?_; clear hK K))); all_goals (repeat (clear hK K)))
      rw [hmd, hwn, hwp, hwb, show ((d + m : Nat) : Int) - b = ((d + m - b : Nat) : Int) by omega]
      obtain ⟨q1, q2, q3, q4, q5, q6⟩ := key (d + m - b) d (if_pos k3) (if_pos k3)
      rw [if_pos k3, if_pos k3] at hSd
      refine aw_loop (ρ := fun z => z) (ι := Nat × Nat × Nat) (fun s => ([(22, .v (.int .i64 ((d + m - 1 : Nat) : Int))), (21, .v (.int .i64 (s.2.2 : Int))), (20, .v (.int .i64 (s.2.1 : Int))), (19, .v (.int .i64 ((d + m : Nat) : Int))), (18, .v (.int .i64 (d : Int))), (4, stC n ls), (3, .v (.int .i64 (b : Int))), (2, .v (.int .i64 (m : Int))), (1, .v (.int .i64 (a : Int))), (0, .sl 0 0 xs.length)], [(0, ⟨2, 1, true, xs.map inL⟩)], 1))
        (fun s => d + m ≤ b + s.2.1 ∧ s.2.1 ≤ s.2.2 ∧ s.2.2 ≤ m ∧ s.2.2 ≤ d ∧ s.2.2 - s.2.1 ≤ s.1 ∧ bisF (fun c => !ltO ls (xs.getD (d + m - 1 - c) 0) (xs.getD c 0)) s.1 s.2.1 s.2.2 = S) (fun s => s.1) (d - (d + m - b), (d + m - b), d) ⟨by dsimp only; omega, by dsimp only; omega, by dsimp only; omega, by dsimp only; omega, Nat.le_refl _, hSd.symm⟩ ⟨by (repeat (refine ⟨by first | exact lk_i rfl rfl | exact lk_s rfl rfl rfl rfl | exact lk_f rfl, ?_⟩)); exact trivial, by (repeat (refine ⟨by first | exact ⟨rfl, rfl, rfl⟩, ?_⟩)); exact trivial, by rfl, by (intro i hi; (try dsimp only); refine ⟨?_, ?_⟩ <;> first | rfl | omega | (simp at hi; omega) | (simp; omega))⟩ ?_
      rintro ⟨g, i, j⟩ ⟨i1, ij, jm, jd, hg1, hg⟩
      dsimp only at i1 ij jm jd hg1 hg
      dsimp only
      by_cases c1 : i < j
      · have b1 : decide ((i : Int) < (j : Int)) = true := by simpa using c1
        obtain ⟨g, rfl⟩ : ∃ g', g = g' + 1 := ⟨g - 1, by omega⟩
        rw [bisF, if_pos c1] at hg
        have hh := half_eq (i := i) (j := j) (by omega)
        have hlo := (show i ≤ (i + j) / 2 by omega)
        have hhi := (show (i + j) / 2 < j by omega)
        generalize (i + j) / 2 = h at *
        have hwp2 : IntKind.i64.wrap (((d + m - 1 : Nat) : Int) - (h : Int)) = ((d + m - 1 - h : Nat) : Int) := by rw [IntWalk.i64_in _ (by omega)]; omega
        have hr1 := inL_get (xs := xs) (i := d + m - 1 - h) (by omega)
        have hr2 := inL_get (xs := xs) (i := h) (by omega)
        have hC := stClos_ro n ls (xs.getD (d + m - 1 - h) 0) (xs.getD h 0) hn (hv.at (by omega)) (hv.at (by omega))
        have hw1 : IntKind.i64.wrap ((h : Int) + 1) = ((h + 1 : Nat) : Int) := by rw [IntWalk.i64_in _ (by omega)]; omega
        rw [← hwp2] at hr1
        by_cases c2 : kO ls (xs.getD (d + m - 1 - h) 0) < kO ls (xs.getD h 0)
        · have b2 : decide (i64c (kO ls (xs.getD (d + m - 1 - h) 0)) (kO ls (xs.getD h 0)) < 0) = true := by rw [i64c_lt]; simpa using c2
          have b22 : (!decide (i64c (kO ls (xs.getD (d + m - 1 - h) 0)) (kO ls (xs.getD h 0)) < 0)) = false := by rw [b2]; rfl
          rw [if_neg (by simpa [ltO] using c2)] at hg
          rw [← hh] at hr1 hr2 hw1 hwp2
          ((repeat' (first
    | (show SQ _ _ _ _ _ _ _ _; first | apply sq_nil | (apply q_move; exact rfl; exact rfl) | (apply q_assign; exact rfl; exact rfl) | (apply q_conv; exact rfl; exact rfl; exact (ty rfl); exact rfl; exact (ty rfl)) | (apply q_add; iterate 3 exact rfl) | (apply q_lss; iterate 3 exact rfl) | (apply q_shr; (iterate 3 exact rfl); exact (by first | omega | (simp; done) | (simp; omega))))
    | (show DE _ _ _ _ _ _ _ _ _ _ _ _; first | (apply e_move; iterate 3 exact rfl) | (apply e_not; iterate 3 exact rfl) | (apply e_sub; iterate 4 exact rfl) | (apply e_lss; iterate 4 exact rfl) | (apply e_ixl; (iterate 3 exact rfl); exact (ty rfl); (iterate 3 exact rfl); exact (by first | omega | (simp; done) | (simp; omega)); exact (by first | omega | (simp; done) | (simp; omega)); exact rfl) | (apply e_ld1p; exact rfl; exact rfl; exact (ty rfl); exact rfl; exact rfl; exact (by first | rfl | assumption | ((try simp only [Nat.zero_add]); refine List.getElem?_set_self ?_; (try simp only [List.length_set]); assumption)); exact rfl; exact rfl))
    | (show DE _ _ _ _ _ _ _ _ _ _ _ _; (first | (apply dr_nil; exact trivial) | (apply e_callU; (iterate 3 exact rfl); exact FzL.of rfl; exact hC _; exact rfl)); (try simp only [put, rowsOf, plR, selE, ovr, setH, del, cellsA, splice, isV, spq, if_true, if_false]))
    | (show AW _ _ _ _ _ _ _ _; first | refine aw_region ?_ | (refine aw_seqk ?_; intro K hK) | refine aw_block ?_ | (apply aw_cond_t; exact rfl; exact (by assumption)) | (apply aw_cond_f; exact rfl; exact (by assumption)) | refine aw_skip ?_ | refine aw_drawE (id := 35) [0, 0, 0, 0, 12, 30, 62, 0, 0, 384, 896, 2047, 4095, 8191] [0, 0, 0, 0, 0, 1, 1, 0, 0, 1, 1, 1, 0, 0] mixed (by kernel_rfl) ?_)
    | refine thn_n ?_
    | (refine hK _ _ _ ?_; clear hK K)
    | refine inb_n ?_)); all_goals (repeat (clear hK K)))
          all_goals (refine ⟨(g, i, h), fun z => z, ⟨i1, by dsimp only; omega, by dsimp only; omega, by dsimp only; omega, by dsimp only; omega, hg⟩, by dsimp only; omega, ?_⟩; (try dsimp only); rw [← hh]; exact ⟨by (repeat (refine ⟨by first | exact lk_i rfl rfl | exact lk_s rfl rfl rfl rfl | exact lk_f rfl, ?_⟩)); exact trivial, by (repeat (refine ⟨by first | exact ⟨rfl, rfl, rfl⟩, ?_⟩)); exact trivial, by rfl, by (intro i hi; (try dsimp only); refine ⟨?_, ?_⟩ <;> first | rfl | omega | (simp at hi; omega) | (simp; omega))⟩)
        · have b2 : decide (i64c (kO ls (xs.getD (d + m - 1 - h) 0)) (kO ls (xs.getD h 0)) < 0) = false := by rw [i64c_lt]; simpa using c2
          have b22 : (!decide (i64c (kO ls (xs.getD (d + m - 1 - h) 0)) (kO ls (xs.getD h 0)) < 0)) = true := by rw [b2]; rfl
          rw [if_pos (by simpa [ltO] using c2)] at hg
          rw [← hh] at hr1 hr2 hw1 hwp2
          ((repeat' (first
    | (show SQ _ _ _ _ _ _ _ _; first | apply sq_nil | (apply q_move; exact rfl; exact rfl) | (apply q_assign; exact rfl; exact rfl) | (apply q_conv; exact rfl; exact rfl; exact (ty rfl); exact rfl; exact (ty rfl)) | (apply q_add; iterate 3 exact rfl) | (apply q_lss; iterate 3 exact rfl) | (apply q_shr; (iterate 3 exact rfl); exact (by first | omega | (simp; done) | (simp; omega))))
    | (show DE _ _ _ _ _ _ _ _ _ _ _ _; first | (apply e_move; iterate 3 exact rfl) | (apply e_not; iterate 3 exact rfl) | (apply e_sub; iterate 4 exact rfl) | (apply e_lss; iterate 4 exact rfl) | (apply e_ixl; (iterate 3 exact rfl); exact (ty rfl); (iterate 3 exact rfl); exact (by first | omega | (simp; done) | (simp; omega)); exact (by first | omega | (simp; done) | (simp; omega)); exact rfl) | (apply e_ld1p; exact rfl; exact rfl; exact (ty rfl); exact rfl; exact rfl; exact (by first | rfl | assumption | ((try simp only [Nat.zero_add]); refine List.getElem?_set_self ?_; (try simp only [List.length_set]); assumption)); exact rfl; exact rfl))
    | (show DE _ _ _ _ _ _ _ _ _ _ _ _; (first | (apply dr_nil; exact trivial) | (apply e_callU; (iterate 3 exact rfl); exact FzL.of rfl; exact hC _; exact rfl)); (try simp only [put, rowsOf, plR, selE, ovr, setH, del, cellsA, splice, isV, spq, if_true, if_false]))
    | (show AW _ _ _ _ _ _ _ _; first | refine aw_region ?_ | (refine aw_seqk ?_; intro K hK) | refine aw_block ?_ | (apply aw_cond_t; exact rfl; exact (by assumption)) | refine aw_skip ?_ | refine aw_drawE (id := 35) [0, 0, 0, 0, 12, 30, 62, 0, 0, 384, 896, 2047, 4095, 8191] [0, 0, 0, 0, 0, 1, 1, 0, 0, 1, 1, 1, 0, 0] mixed (by kernel_rfl) ?_)
    | refine thn_n ?_
    | (refine hK _ _ _ ?_; clear hK K)
    | refine inb_n ?_)); all_goals (repeat (clear hK K)))
          all_goals (refine ⟨(g, h + 1, j), fun z => z, ⟨by dsimp only; omega, by dsimp only; omega, jm, jd, by dsimp only; omega, hg⟩, by dsimp only; omega, ?_⟩; (try dsimp only); rw [← hw1]; exact ⟨by (repeat (refine ⟨by first | exact lk_i rfl rfl | exact lk_s rfl rfl rfl rfl | exact lk_f rfl, ?_⟩)); exact trivial, by (repeat (refine ⟨by first | exact ⟨rfl, rfl, rfl⟩, ?_⟩)); exact trivial, by rfl, by (intro i hi; (try dsimp only); refine ⟨?_, ?_⟩ <;> first | rfl | omega | (simp at hi; omega) | (simp; omega))⟩)
      · have b1 : decide ((i : Int) < (j : Int)) = false := by simpa using c1
        obtain rfl : i = j := by omega
        have hiq : i = S := by
          rw [← hg]
          cases g with
          | zero => rfl
          | succ g => rw [bisF, if_neg c1]
        subst hiq
        have hwe : IntKind.i64.wrap (((d + m : Nat) : Int) - (i : Int)) = ((d + m - i : Nat) : Int) := by rw [IntWalk.i64_in _ (by omega)]; omega
        generalize he : d + m - i = e at *
        by_cases x0 : i < m
        · have f0 : decide ((i : Int) < (m : Int)) = true := by simpa using x0
          by_cases y0 : m < e
          · have g0 : decide ((m : Int) < (e : Int)) = true := by simpa using y0
            rw [← hwe] at g0
            by_cases x1 : a < i
            · have f1 : decide ((a : Int) < (i : Int)) = true := by simpa using x1
              by_cases y1 : i < d
              · have g1 : decide ((i : Int) < (d : Int)) = true := by simpa using y1
                by_cases x2 : d < e
                · have f2 : decide ((d : Int) < (e : Int)) = true := by simpa using x2
                  rw [← hwe] at f2
                  by_cases y2 : e < b
                  · have g2 : decide ((e : Int) < (b : Int)) = true := by simpa using y2
                    rw [← hwe] at g2
                    have hXl := hX.length_eq
                    rw [if_pos (by simp; omega)] at hXd
                    have hR := rotate_rc n ls xs i m e hx (by omega) (by omega) (by omega) 0 1
                    rw [← hXd] at hR
                    have hvX := hv.perm hX
                    have hA := hI X a i d (by omega) hvX (by omega) (by omega) (by omega) (by omega) 0 1
                    have hAp := symF_perm (lt := ltO ls) (f := f) (a := a) (m := i) (b := d) (xs := X) (by omega) (by omega) (by omega)
                    have hAl := hAp.length_eq
                    have hvA := hvX.perm hAp
                    have hi2 : (decide (a < i) && decide (i < d)) = true := by simp; omega
                    rw [if_pos hi2] at hQ
                    generalize hY : symF (ltO ls) f a i d X = Y at *
                    have hB := hI Y d e b (by omega) hvA (by omega) (by omega) (by omega) (by omega) 0 1
                    have hi3 : (decide (d < e) && decide (e < b)) = true := by simp; omega
                    rw [if_pos hi3] at hQ
                    rw [← hwe] at hR
                    rw [hXl] at hA
                    rw [hAl, hXl, hQ, ← hwe] at hB
                    ((repeat' (first
    | (show SQ _ _ _ _ _ _ _ _; first | apply sq_nil | (apply q_move; exact rfl; exact rfl) | (apply q_assign; exact rfl; exact rfl) | (apply q_pick_t; (iterate 3 exact rfl); exact (by first | assumption | exact rfl)) | (apply q_sub; iterate 3 exact rfl) | (apply q_lss; iterate 3 exact rfl) | (apply q_g; (iterate 3 exact rfl); exact (by assumption)))
    | (show SQ _ _ _ _ _ _ _ _; (first | (apply q_callC; (iterate 3 exact rfl); exact hR; (focus ((repeat (first | exact trivial | refine ⟨by first | exact rfl | assumption, ?_⟩)); done)); skip) | (apply q_callC; (iterate 3 exact rfl); exact hA; (focus ((repeat (first | exact trivial | refine ⟨by first | exact rfl | assumption, ?_⟩)); done)); skip) | (apply q_callC; (iterate 3 exact rfl); exact hB; (focus ((repeat (first | exact trivial | refine ⟨by first | exact rfl | assumption, ?_⟩)); done)); skip)); (try simp only [put, rowsOf, plR, selE, ovr, setH, del, cellsA, splice, isV, spq, if_true, if_false]))
    | (show AW _ _ _ _ _ _ _ _; first | refine aw_region ?_ | (refine aw_seqk ?_; intro K hK) | (apply aw_cond_t; exact rfl; exact (by assumption)) | (apply aw_cond_f; exact rfl; exact (by assumption)) | refine aw_exit ?_)
    | refine thn_n ?_
    | (refine hK _ _ _ ?_; clear hK K)
    | refine thn_e ?_
    | refine inb_same ?_
    | (clear hK K; refine hK _ _ _ ?_; clear hK K))); all_goals (repeat (clear hK K)))
                    all_goals exact finc_n (fun z => z) .r0 (by simp only [renA, renL]) (fun _ _ => rfl) ⟨rfl, trivial⟩ rfl
                  · have g2 : decide ((e : Int) < (b : Int)) = false := by simpa using y2
                    rw [← hwe] at g2
                    have hXl := hX.length_eq
                    rw [if_pos (by simp; omega)] at hXd
                    have hR := rotate_rc n ls xs i m e hx (by omega) (by omega) (by omega) 0 1
                    rw [← hXd] at hR
                    have hvX := hv.perm hX
                    have hA := hI X a i d (by omega) hvX (by omega) (by omega) (by omega) (by omega) 0 1
                    have hAp := symF_perm (lt := ltO ls) (f := f) (a := a) (m := i) (b := d) (xs := X) (by omega) (by omega) (by omega)
                    have hAl := hAp.length_eq
                    have hvA := hvX.perm hAp
                    have hi2 : (decide (a < i) && decide (i < d)) = true := by simp; omega
                    rw [if_pos hi2] at hQ
                    generalize hY : symF (ltO ls) f a i d X = Y at *
                    have hi3 : ¬ (decide (d < e) && decide (e < b)) = true := by simp; omega
                    rw [if_neg hi3] at hQ
                    rw [← hwe] at hR
                    rw [hXl] at hA
                    subst hQ
                    ((repeat' (first
    | (show SQ _ _ _ _ _ _ _ _; first | apply sq_nil | (apply q_move; exact rfl; exact rfl) | (apply q_assign; exact rfl; exact rfl) | (apply q_pick_t; (iterate 3 exact rfl); exact (by first | assumption | exact rfl)) | (apply q_sub; iterate 3 exact rfl) | (apply q_lss; iterate 3 exact rfl) | (apply q_g; (iterate 3 exact rfl); exact (by assumption)))
    | (show SQ _ _ _ _ _ _ _ _; (first | (apply q_callC; (iterate 3 exact rfl); exact hR; (focus ((repeat (first | exact trivial | refine ⟨by first | exact rfl | assumption, ?_⟩)); done)); skip) | (apply q_callC; (iterate 3 exact rfl); exact hA; (focus ((repeat (first | exact trivial | refine ⟨by first | exact rfl | assumption, ?_⟩)); done)); skip)); (try simp only [put, rowsOf, plR, selE, ovr, setH, del, cellsA, splice, isV, spq, if_true, if_false]))
    | (show AW _ _ _ _ _ _ _ _; first | refine aw_region ?_ | (refine aw_seqk ?_; intro K hK) | (apply aw_cond_t; exact rfl; exact (by assumption)) | (apply aw_cond_f; exact rfl; exact (by assumption)) | refine aw_exit ?_ | refine aw_skip ?_)
    | refine thn_n ?_
    | (refine hK _ _ _ ?_; clear hK K)
    | refine thn_e ?_
    | refine inb_same ?_
    | (clear hK K; refine hK _ _ _ ?_; clear hK K))); all_goals (repeat (clear hK K)))
                    all_goals exact finc_n (fun z => z) .r0 (by simp only [renA, renL]) (fun _ _ => rfl) ⟨rfl, trivial⟩ rfl
                · have f2 : decide ((d : Int) < (e : Int)) = false := by simpa using x2
                  rw [← hwe] at f2
                  have hXl := hX.length_eq
                  rw [if_pos (by simp; omega)] at hXd
                  have hR := rotate_rc n ls xs i m e hx (by omega) (by omega) (by omega) 0 1
                  rw [← hXd] at hR
                  have hvX := hv.perm hX
                  have hA := hI X a i d (by omega) hvX (by omega) (by omega) (by omega) (by omega) 0 1
                  have hAp := symF_perm (lt := ltO ls) (f := f) (a := a) (m := i) (b := d) (xs := X) (by omega) (by omega) (by omega)
                  have hAl := hAp.length_eq
                  have hvA := hvX.perm hAp
                  have hi2 : (decide (a < i) && decide (i < d)) = true := by simp; omega
                  rw [if_pos hi2] at hQ
                  generalize hY : symF (ltO ls) f a i d X = Y at *
                  have hi3 : ¬ (decide (d < e) && decide (e < b)) = true := by simp; omega
                  rw [if_neg hi3] at hQ
                  rw [← hwe] at hR
                  rw [hXl] at hA
                  subst hQ
                  ((repeat' (first
    | (show SQ _ _ _ _ _ _ _ _; first | apply sq_nil | (apply q_move; exact rfl; exact rfl) | (apply q_assign; exact rfl; exact rfl) | (apply q_pick_t; (iterate 3 exact rfl); exact (by first | assumption | exact rfl)) | (apply q_pick_f; (iterate 3 exact rfl); exact (by first | assumption | exact rfl)) | (apply q_sub; iterate 3 exact rfl) | (apply q_lss; iterate 3 exact rfl) | (apply q_g; (iterate 3 exact rfl); exact (by assumption)) | (apply q_s; (iterate 3 exact rfl); exact (by assumption); exact rfl))
    | (show SQ _ _ _ _ _ _ _ _; (first | (apply q_callC; (iterate 3 exact rfl); exact hR; (focus ((repeat (first | exact trivial | refine ⟨by first | exact rfl | assumption, ?_⟩)); done)); skip) | (apply q_callC; (iterate 3 exact rfl); exact hA; (focus ((repeat (first | exact trivial | refine ⟨by first | exact rfl | assumption, ?_⟩)); done)); skip)); (try simp only [put, rowsOf, plR, selE, ovr, setH, del, cellsA, splice, isV, spq, if_true, if_false]))
    | (show AW _ _ _ _ _ _ _ _; first | refine aw_region ?_ | (refine aw_seqk ?_; intro K hK) | (apply aw_cond_f; exact rfl; exact rfl) | (apply aw_cond_t; exact rfl; exact (by assumption)) | (apply aw_cond_f; exact rfl; exact (by assumption)) | refine aw_exit ?_ | refine aw_skip ?_)
    | refine thn_n ?_
    | (refine hK _ _ _ ?_; clear hK K)
    | refine thn_e ?_
    | refine inb_same ?_
    | (clear hK K; refine hK _ _ _ ?_; clear hK K))); all_goals (repeat (clear hK K)))
                  all_goals exact finc_n (fun z => z) .r0 (by simp only [renA, renL]) (fun _ _ => rfl) ⟨rfl, trivial⟩ rfl
              · have g1 : decide ((i : Int) < (d : Int)) = false := by simpa using y1
                by_cases x2 : d < e
                · have f2 : decide ((d : Int) < (e : Int)) = true := by simpa using x2
                  rw [← hwe] at f2
                  by_cases y2 : e < b
                  · have g2 : decide ((e : Int) < (b : Int)) = true := by simpa using y2
                    rw [← hwe] at g2
                    have hXl := hX.length_eq
                    rw [if_pos (by simp; omega)] at hXd
                    have hR := rotate_rc n ls xs i m e hx (by omega) (by omega) (by omega) 0 1
                    rw [← hXd] at hR
                    have hvX := hv.perm hX
                    have hi2 : ¬ (decide (a < i) && decide (i < d)) = true := by simp; omega
                    rw [if_neg hi2] at hQ
                    have hB := hI X d e b (by omega) hvX (by omega) (by omega) (by omega) (by omega) 0 1
                    have hi3 : (decide (d < e) && decide (e < b)) = true := by simp; omega
                    rw [if_pos hi3] at hQ
                    rw [← hwe] at hR
                    rw [hXl, hQ, ← hwe] at hB
                    ((repeat' (first
    | (show SQ _ _ _ _ _ _ _ _; first | apply sq_nil | (apply q_move; exact rfl; exact rfl) | (apply q_assign; exact rfl; exact rfl) | (apply q_pick_t; (iterate 3 exact rfl); exact (by first | assumption | exact rfl)) | (apply q_sub; iterate 3 exact rfl) | (apply q_lss; iterate 3 exact rfl) | (apply q_g; (iterate 3 exact rfl); exact (by assumption)))
    | (show SQ _ _ _ _ _ _ _ _; (first | (apply q_callC; (iterate 3 exact rfl); exact hR; (focus ((repeat (first | exact trivial | refine ⟨by first | exact rfl | assumption, ?_⟩)); done)); skip) | (apply q_callC; (iterate 3 exact rfl); exact hB; (focus ((repeat (first | exact trivial | refine ⟨by first | exact rfl | assumption, ?_⟩)); done)); skip)); (try simp only [put, rowsOf, plR, selE, ovr, setH, del, cellsA, splice, isV, spq, if_true, if_false]))
    | (show AW _ _ _ _ _ _ _ _; first | refine aw_region ?_ | (refine aw_seqk ?_; intro K hK) | (apply aw_cond_t; exact rfl; exact (by assumption)) | (apply aw_cond_f; exact rfl; exact (by assumption)) | refine aw_exit ?_ | refine aw_skip ?_)
    | refine thn_n ?_
    | (refine hK _ _ _ ?_; clear hK K)
    | refine thn_e ?_
    | refine inb_same ?_
    | (clear hK K; refine hK _ _ _ ?_; clear hK K))); all_goals (repeat (clear hK K)))
                    all_goals exact finc_n (fun z => z) .r0 (by simp only [renA, renL]) (fun _ _ => rfl) ⟨rfl, trivial⟩ rfl
                  · have g2 : decide ((e : Int) < (b : Int)) = false := by simpa using y2
                    rw [← hwe] at g2
                    have hXl := hX.length_eq
                    rw [if_pos (by simp; omega)] at hXd
                    have hR := rotate_rc n ls xs i m e hx (by omega) (by omega) (by omega) 0 1
                    rw [← hXd] at hR
                    have hvX := hv.perm hX
                    have hi2 : ¬ (decide (a < i) && decide (i < d)) = true := by simp; omega
                    rw [if_neg hi2] at hQ
                    have hi3 : ¬ (decide (d < e) && decide (e < b)) = true := by simp; omega
                    rw [if_neg hi3] at hQ
                    rw [← hwe] at hR
                    subst hQ
                    ((repeat' (first
    | (show SQ _ _ _ _ _ _ _ _; first | apply sq_nil | (apply q_move; exact rfl; exact rfl) | (apply q_assign; exact rfl; exact rfl) | (apply q_pick_t; (iterate 3 exact rfl); exact (by first | assumption | exact rfl)) | (apply q_sub; iterate 3 exact rfl) | (apply q_lss; iterate 3 exact rfl) | (apply q_g; (iterate 3 exact rfl); exact (by assumption)))
    | (show SQ _ _ _ _ _ _ _ _; (first | (apply q_callC; (iterate 3 exact rfl); exact hR; (focus ((repeat (first | exact trivial | refine ⟨by first | exact rfl | assumption, ?_⟩)); done)); skip)); (try simp only [put, rowsOf, plR, selE, ovr, setH, del, cellsA, splice, isV, spq, if_true, if_false]))
    | (show AW _ _ _ _ _ _ _ _; first | refine aw_region ?_ | (refine aw_seqk ?_; intro K hK) | (apply aw_cond_t; exact rfl; exact (by assumption)) | (apply aw_cond_f; exact rfl; exact (by assumption)) | refine aw_exit ?_ | refine aw_skip ?_)
    | refine thn_n ?_
    | (refine hK _ _ _ ?_; clear hK K)
    | refine thn_e ?_
    | refine inb_same ?_
    | (clear hK K; refine hK _ _ _ ?_; clear hK K))); all_goals (repeat (clear hK K)))
                    all_goals exact finc_n (fun z => z) .r0 (by simp only [renA, renL]) (fun _ _ => rfl) ⟨rfl, trivial⟩ rfl
                · have f2 : decide ((d : Int) < (e : Int)) = false := by simpa using x2
                  rw [← hwe] at f2
                  have hXl := hX.length_eq
                  rw [if_pos (by simp; omega)] at hXd
                  have hR := rotate_rc n ls xs i m e hx (by omega) (by omega) (by omega) 0 1
                  rw [← hXd] at hR
                  have hvX := hv.perm hX
                  have hi2 : ¬ (decide (a < i) && decide (i < d)) = true := by simp; omega
                  rw [if_neg hi2] at hQ
                  have hi3 : ¬ (decide (d < e) && decide (e < b)) = true := by simp; omega
                  rw [if_neg hi3] at hQ
                  rw [← hwe] at hR
                  subst hQ
                  ((repeat' (first
    | (show SQ _ _ _ _ _ _ _ _; first | apply sq_nil | (apply q_move; exact rfl; exact rfl) | (apply q_assign; exact rfl; exact rfl) | (apply q_pick_t; (iterate 3 exact rfl); exact (by first | assumption | exact rfl)) | (apply q_pick_f; (iterate 3 exact rfl); exact (by first | assumption | exact rfl)) | (apply q_sub; iterate 3 exact rfl) | (apply q_lss; iterate 3 exact rfl) | (apply q_g; (iterate 3 exact rfl); exact (by assumption)) | (apply q_s; (iterate 3 exact rfl); exact (by assumption); exact rfl))
    | (show SQ _ _ _ _ _ _ _ _; (first | (apply q_callC; (iterate 3 exact rfl); exact hR; (focus ((repeat (first | exact trivial | refine ⟨by first | exact rfl | assumption, ?_⟩)); done)); skip)); (try simp only [put, rowsOf, plR, selE, ovr, setH, del, cellsA, splice, isV, spq, if_true, if_false]))
    | (show AW _ _ _ _ _ _ _ _; first | refine aw_region ?_ | (refine aw_seqk ?_; intro K hK) | (apply aw_cond_f; exact rfl; exact rfl) | (apply aw_cond_t; exact rfl; exact (by assumption)) | (apply aw_cond_f; exact rfl; exact (by assumption)) | refine aw_exit ?_ | refine aw_skip ?_)
    | refine thn_n ?_
    | (refine hK _ _ _ ?_; clear hK K)
    | refine thn_e ?_
    | refine inb_same ?_
    | (clear hK K; refine hK _ _ _ ?_; clear hK K))); all_goals (repeat (clear hK K)))
                  all_goals exact finc_n (fun z => z) .r0 (by simp only [renA, renL]) (fun _ _ => rfl) ⟨rfl, trivial⟩ rfl
            · have f1 : decide ((a : Int) < (i : Int)) = false := by simpa using x1
              by_cases x2 : d < e
              · have f2 : decide ((d : Int) < (e : Int)) = true := by simpa using x2
                rw [← hwe] at f2
                by_cases y2 : e < b
                · have g2 : decide ((e : Int) < (b : Int)) = true := by simpa using y2
                  rw [← hwe] at g2
                  have hXl := hX.length_eq
                  rw [if_pos (by simp; omega)] at hXd
                  have hR := rotate_rc n ls xs i m e hx (by omega) (by omega) (by omega) 0 1
                  rw [← hXd] at hR
                  have hvX := hv.perm hX
                  have hi2 : ¬ (decide (a < i) && decide (i < d)) = true := by simp; omega
                  rw [if_neg hi2] at hQ
                  have hB := hI X d e b (by omega) hvX (by omega) (by omega) (by omega) (by omega) 0 1
                  have hi3 : (decide (d < e) && decide (e < b)) = true := by simp; omega
                  rw [if_pos hi3] at hQ
                  rw [← hwe] at hR
                  rw [hXl, hQ, ← hwe] at hB
                  ((repeat' (first
    | (show SQ _ _ _ _ _ _ _ _; first | apply sq_nil | (apply q_move; exact rfl; exact rfl) | (apply q_assign; exact rfl; exact rfl) | (apply q_pick_t; (iterate 3 exact rfl); exact (by first | assumption | exact rfl)) | (apply q_pick_f; (iterate 3 exact rfl); exact (by first | assumption | exact rfl)) | (apply q_sub; iterate 3 exact rfl) | (apply q_lss; iterate 3 exact rfl) | (apply q_g; (iterate 3 exact rfl); exact (by assumption)) | (apply q_s; (iterate 3 exact rfl); exact (by assumption); exact rfl))
    | (show SQ _ _ _ _ _ _ _ _; (first | (apply q_callC; (iterate 3 exact rfl); exact hR; (focus ((repeat (first | exact trivial | refine ⟨by first | exact rfl | assumption, ?_⟩)); done)); skip) | (apply q_callC; (iterate 3 exact rfl); exact hB; (focus ((repeat (first | exact trivial | refine ⟨by first | exact rfl | assumption, ?_⟩)); done)); skip)); (try simp only [put, rowsOf, plR, selE, ovr, setH, del, cellsA, splice, isV, spq, if_true, if_false]))
    | (show AW _ _ _ _ _ _ _ _; first | refine aw_region ?_ | (refine aw_seqk ?_; intro K hK) | (apply aw_cond_f; exact rfl; exact rfl) | (apply aw_cond_t; exact rfl; exact (by assumption)) | (apply aw_cond_f; exact rfl; exact (by assumption)) | refine aw_exit ?_ | refine aw_skip ?_)
    | refine thn_n ?_
    | (refine hK _ _ _ ?_; clear hK K)
    | refine thn_e ?_
    | refine inb_same ?_
    | (clear hK K; refine hK _ _ _ ?_; clear hK K))); all_goals (repeat (clear hK K)))
                  all_goals exact finc_n (fun z => z) .r0 (by simp only [renA, renL]) (fun _ _ => rfl) ⟨rfl, trivial⟩ rfl
                · have g2 : decide ((e : Int) < (b : Int)) = false := by simpa using y2
                  rw [← hwe] at g2
                  have hXl := hX.length_eq
                  rw [if_pos (by simp; omega)] at hXd
                  have hR := rotate_rc n ls xs i m e hx (by omega) (by omega) (by omega) 0 1
                  rw [← hXd] at hR
                  have hvX := hv.perm hX
                  have hi2 : ¬ (decide (a < i) && decide (i < d)) = true := by simp; omega
                  rw [if_neg hi2] at hQ
                  have hi3 : ¬ (decide (d < e) && decide (e < b)) = true := by simp; omega
                  rw [if_neg hi3] at hQ
                  rw [← hwe] at hR
                  subst hQ
                  ((repeat' (first
    | (show SQ _ _ _ _ _ _ _ _; first | apply sq_nil | (apply q_move; exact rfl; exact rfl) | (apply q_assign; exact rfl; exact rfl) | (apply q_pick_t; (iterate 3 exact rfl); exact (by first | assumption | exact rfl)) | (apply q_pick_f; (iterate 3 exact rfl); exact (by first | assumption | exact rfl)) | (apply q_sub; iterate 3 exact rfl) | (apply q_lss; iterate 3 exact rfl) | (apply q_g; (iterate 3 exact rfl); exact (by assumption)) | (apply q_s; (iterate 3 exact rfl); exact (by assumption); exact rfl))
    | (show SQ _ _ _ _ _ _ _ _; (first | (apply q_callC; (iterate 3 exact rfl); exact hR; (focus ((repeat (first | exact trivial | refine ⟨by first | exact rfl | assumption, ?_⟩)); done)); skip)); (try simp only [put, rowsOf, plR, selE, ovr, setH, del, cellsA, splice, isV, spq, if_true, if_false]))
    | (show AW _ _ _ _ _ _ _ _; first | refine aw_region ?_ | (refine aw_seqk ?_; intro K hK) | (apply aw_cond_f; exact rfl; exact rfl) | (apply aw_cond_t; exact rfl; exact (by assumption)) | (apply aw_cond_f; exact rfl; exact (by assumption)) | refine aw_exit ?_ | refine aw_skip ?_)
    | refine thn_n ?_
    | (refine hK _ _ _ ?_; clear hK K)
    | refine thn_e ?_
    | refine inb_same ?_
    | (clear hK K; refine hK _ _ _ ?_; clear hK K))); all_goals (repeat (clear hK K)))
                  all_goals exact finc_n (fun z => z) .r0 (by simp only [renA, renL]) (fun _ _ => rfl) ⟨rfl, trivial⟩ rfl
              · have f2 : decide ((d : Int) < (e : Int)) = false := by simpa using x2
                rw [← hwe] at f2
                have hXl := hX.length_eq
                rw [if_pos (by simp; omega)] at hXd
                have hR := rotate_rc n ls xs i m e hx (by omega) (by omega) (by omega) 0 1
                rw [← hXd] at hR
                have hvX := hv.perm hX
                have hi2 : ¬ (decide (a < i) && decide (i < d)) = true := by simp; omega
                rw [if_neg hi2] at hQ
                have hi3 : ¬ (decide (d < e) && decide (e < b)) = true := by simp; omega
                rw [if_neg hi3] at hQ
                rw [← hwe] at hR
                subst hQ
                ((repeat' (first
    | (show SQ _ _ _ _ _ _ _ _; first | apply sq_nil | (apply q_move; exact rfl; exact rfl) | (apply q_assign; exact rfl; exact rfl) | (apply q_pick_t; (iterate 3 exact rfl); exact (by first | assumption | exact rfl)) | (apply q_pick_f; (iterate 3 exact rfl); exact (by first | assumption | exact rfl)) | (apply q_sub; iterate 3 exact rfl) | (apply q_lss; iterate 3 exact rfl) | (apply q_g; (iterate 3 exact rfl); exact (by assumption)) | (apply q_s; (iterate 3 exact rfl); exact (by assumption); exact rfl))
    | (show SQ _ _ _ _ _ _ _ _; (first | (apply q_callC; (iterate 3 exact rfl); exact hR; (focus ((repeat (first | exact trivial | refine ⟨by first | exact rfl | assumption, ?_⟩)); done)); skip)); (try simp only [put, rowsOf, plR, selE, ovr, setH, del, cellsA, splice, isV, spq, if_true, if_false]))
    | (show AW _ _ _ _ _ _ _ _; first | refine aw_region ?_ | (refine aw_seqk ?_; intro K hK) | (apply aw_cond_f; exact rfl; exact rfl) | (apply aw_cond_t; exact rfl; exact (by assumption)) | (apply aw_cond_f; exact rfl; exact (by assumption)) | refine aw_exit ?_ | refine aw_skip ?_)
    | refine thn_n ?_
    | (refine hK _ _ _ ?_; clear hK K)
    | refine thn_e ?_
    | refine inb_same ?_
    | (clear hK K; refine hK _ _ _ ?_; clear hK K))); all_goals (repeat (clear hK K)))
                all_goals exact finc_n (fun z => z) .r0 (by simp only [renA, renL]) (fun _ _ => rfl) ⟨rfl, trivial⟩ rfl
          · have g0 : decide ((m : Int) < (e : Int)) = false := by simpa using y0
            rw [← hwe] at g0
            by_cases x1 : a < i
            · have f1 : decide ((a : Int) < (i : Int)) = true := by simpa using x1
              by_cases y1 : i < d
              · have g1 : decide ((i : Int) < (d : Int)) = true := by simpa using y1
                by_cases x2 : d < e
                · have f2 : decide ((d : Int) < (e : Int)) = true := by simpa using x2
                  rw [← hwe] at f2
                  by_cases y2 : e < b
                  · have g2 : decide ((e : Int) < (b : Int)) = true := by simpa using y2
                    rw [← hwe] at g2
                    have hXl := hX.length_eq
                    rw [if_neg (by simp; omega)] at hXd
                    subst hXd
                    have hvX := hv.perm hX
                    have hA := hI X a i d (by omega) hvX (by omega) (by omega) (by omega) (by omega) 0 1
                    have hAp := symF_perm (lt := ltO ls) (f := f) (a := a) (m := i) (b := d) (xs := X) (by omega) (by omega) (by omega)
                    have hAl := hAp.length_eq
                    have hvA := hvX.perm hAp
                    have hi2 : (decide (a < i) && decide (i < d)) = true := by simp; omega
                    rw [if_pos hi2] at hQ
                    generalize hY : symF (ltO ls) f a i d X = Y at *
                    have hB := hI Y d e b (by omega) hvA (by omega) (by omega) (by omega) (by omega) 0 1
                    have hi3 : (decide (d < e) && decide (e < b)) = true := by simp; omega
                    rw [if_pos hi3] at hQ
                    rw [hXl] at hA
                    rw [hAl, hXl, hQ, ← hwe] at hB
                    ((repeat' (first
    | (show SQ _ _ _ _ _ _ _ _; first | apply sq_nil | (apply q_move; exact rfl; exact rfl) | (apply q_assign; exact rfl; exact rfl) | (apply q_pick_t; (iterate 3 exact rfl); exact (by first | assumption | exact rfl)) | (apply q_sub; iterate 3 exact rfl) | (apply q_lss; iterate 3 exact rfl) | (apply q_g; (iterate 3 exact rfl); exact (by assumption)))
    | (show SQ _ _ _ _ _ _ _ _; (first | (apply q_callC; (iterate 3 exact rfl); exact hA; (focus ((repeat (first | exact trivial | refine ⟨by first | exact rfl | assumption, ?_⟩)); done)); skip) | (apply q_callC; (iterate 3 exact rfl); exact hB; (focus ((repeat (first | exact trivial | refine ⟨by first | exact rfl | assumption, ?_⟩)); done)); skip)); (try simp only [put, rowsOf, plR, selE, ovr, setH, del, cellsA, splice, isV, spq, if_true, if_false]))
    | (show AW _ _ _ _ _ _ _ _; first | refine aw_region ?_ | (refine aw_seqk ?_; intro K hK) | (apply aw_cond_t; exact rfl; exact (by assumption)) | (apply aw_cond_f; exact rfl; exact (by assumption)) | refine aw_exit ?_ | refine aw_skip ?_)
    | refine thn_n ?_
    | (refine hK _ _ _ ?_; clear hK K)
    | refine thn_e ?_
    | refine inb_same ?_
    | (clear hK K; refine hK _ _ _ ?_; clear hK K))); all_goals (repeat (clear hK K)))
                    all_goals exact finc_n (fun z => z) .r0 (by simp only [renA, renL]) (fun _ _ => rfl) ⟨rfl, trivial⟩ rfl
                  · have g2 : decide ((e : Int) < (b : Int)) = false := by simpa using y2
                    rw [← hwe] at g2
                    have hXl := hX.length_eq
                    rw [if_neg (by simp; omega)] at hXd
                    subst hXd
                    have hvX := hv.perm hX
                    have hA := hI X a i d (by omega) hvX (by omega) (by omega) (by omega) (by omega) 0 1
                    have hAp := symF_perm (lt := ltO ls) (f := f) (a := a) (m := i) (b := d) (xs := X) (by omega) (by omega) (by omega)
                    have hAl := hAp.length_eq
                    have hvA := hvX.perm hAp
                    have hi2 : (decide (a < i) && decide (i < d)) = true := by simp; omega
                    rw [if_pos hi2] at hQ
                    generalize hY : symF (ltO ls) f a i d X = Y at *
                    have hi3 : ¬ (decide (d < e) && decide (e < b)) = true := by simp; omega
                    rw [if_neg hi3] at hQ
                    rw [hXl] at hA
                    subst hQ
                    ((repeat' (first
    | (show SQ _ _ _ _ _ _ _ _; first | apply sq_nil | (apply q_move; exact rfl; exact rfl) | (apply q_assign; exact rfl; exact rfl) | (apply q_pick_t; (iterate 3 exact rfl); exact (by first | assumption | exact rfl)) | (apply q_sub; iterate 3 exact rfl) | (apply q_lss; iterate 3 exact rfl) | (apply q_g; (iterate 3 exact rfl); exact (by assumption)))
    | (show SQ _ _ _ _ _ _ _ _; (first | (apply q_callC; (iterate 3 exact rfl); exact hA; (focus ((repeat (first | exact trivial | refine ⟨by first | exact rfl | assumption, ?_⟩)); done)); skip)); (try simp only [put, rowsOf, plR, selE, ovr, setH, del, cellsA, splice, isV, spq, if_true, if_false]))
    | (show AW _ _ _ _ _ _ _ _; first | refine aw_region ?_ | (refine aw_seqk ?_; intro K hK) | (apply aw_cond_t; exact rfl; exact (by assumption)) | (apply aw_cond_f; exact rfl; exact (by assumption)) | refine aw_exit ?_ | refine aw_skip ?_)
    | refine thn_n ?_
    | (refine hK _ _ _ ?_; clear hK K)
    | refine thn_e ?_
    | refine inb_same ?_
    | (clear hK K; refine hK _ _ _ ?_; clear hK K))); all_goals (repeat (clear hK K)))
                    all_goals exact finc_n (fun z => z) .r0 (by simp only [renA, renL]) (fun _ _ => rfl) ⟨rfl, trivial⟩ rfl
                · have f2 : decide ((d : Int) < (e : Int)) = false := by simpa using x2
                  rw [← hwe] at f2
                  have hXl := hX.length_eq
                  rw [if_neg (by simp; omega)] at hXd
                  subst hXd
                  have hvX := hv.perm hX
                  have hA := hI X a i d (by omega) hvX (by omega) (by omega) (by omega) (by omega) 0 1
                  have hAp := symF_perm (lt := ltO ls) (f := f) (a := a) (m := i) (b := d) (xs := X) (by omega) (by omega) (by omega)
                  have hAl := hAp.length_eq
                  have hvA := hvX.perm hAp
                  have hi2 : (decide (a < i) && decide (i < d)) = true := by simp; omega
                  rw [if_pos hi2] at hQ
                  generalize hY : symF (ltO ls) f a i d X = Y at *
                  have hi3 : ¬ (decide (d < e) && decide (e < b)) = true := by simp; omega
                  rw [if_neg hi3] at hQ
                  rw [hXl] at hA
                  subst hQ
                  ((repeat' (first
    | (show SQ _ _ _ _ _ _ _ _; first | apply sq_nil | (apply q_move; exact rfl; exact rfl) | (apply q_assign; exact rfl; exact rfl) | (apply q_pick_t; (iterate 3 exact rfl); exact (by first | assumption | exact rfl)) | (apply q_pick_f; (iterate 3 exact rfl); exact (by first | assumption | exact rfl)) | (apply q_sub; iterate 3 exact rfl) | (apply q_lss; iterate 3 exact rfl) | (apply q_g; (iterate 3 exact rfl); exact (by assumption)) | (apply q_s; (iterate 3 exact rfl); exact (by assumption); exact rfl))
    | (show SQ _ _ _ _ _ _ _ _; (first | (apply q_callC; (iterate 3 exact rfl); exact hA; (focus ((repeat (first | exact trivial | refine ⟨by first | exact rfl | assumption, ?_⟩)); done)); skip)); (try simp only [put, rowsOf, plR, selE, ovr, setH, del, cellsA, splice, isV, spq, if_true, if_false]))
    | (show AW _ _ _ _ _ _ _ _; first | refine aw_region ?_ | (refine aw_seqk ?_; intro K hK) | (apply aw_cond_f; exact rfl; exact rfl) | (apply aw_cond_t; exact rfl; exact (by assumption)) | (apply aw_cond_f; exact rfl; exact (by assumption)) | refine aw_exit ?_ | refine aw_skip ?_)
    | refine thn_n ?_
    | (refine hK _ _ _ ?_; clear hK K)
    | refine thn_e ?_
    | refine inb_same ?_
    | (clear hK K; refine hK _ _ _ ?_; clear hK K))); all_goals (repeat (clear hK K)))
                  all_goals exact finc_n (fun z => z) .r0 (by simp only [renA, renL]) (fun _ _ => rfl) ⟨rfl, trivial⟩ rfl
              · have g1 : decide ((i : Int) < (d : Int)) = false := by simpa using y1
                by_cases x2 : d < e
                · have f2 : decide ((d : Int) < (e : Int)) = true := by simpa using x2
                  rw [← hwe] at f2
                  by_cases y2 : e < b
                  · have g2 : decide ((e : Int) < (b : Int)) = true := by simpa using y2
                    rw [← hwe] at g2
                    have hXl := hX.length_eq
                    rw [if_neg (by simp; omega)] at hXd
                    subst hXd
                    have hvX := hv.perm hX
                    have hi2 : ¬ (decide (a < i) && decide (i < d)) = true := by simp; omega
                    rw [if_neg hi2] at hQ
                    have hB := hI X d e b (by omega) hvX (by omega) (by omega) (by omega) (by omega) 0 1
                    have hi3 : (decide (d < e) && decide (e < b)) = true := by simp; omega
                    rw [if_pos hi3] at hQ
                    rw [hXl, hQ, ← hwe] at hB
                    ((repeat' (first
    | (show SQ _ _ _ _ _ _ _ _; first | apply sq_nil | (apply q_move; exact rfl; exact rfl) | (apply q_assign; exact rfl; exact rfl) | (apply q_pick_t; (iterate 3 exact rfl); exact (by first | assumption | exact rfl)) | (apply q_sub; iterate 3 exact rfl) | (apply q_lss; iterate 3 exact rfl) | (apply q_g; (iterate 3 exact rfl); exact (by assumption)))
    | (show SQ _ _ _ _ _ _ _ _; (first | (apply q_callC; (iterate 3 exact rfl); exact hB; (focus ((repeat (first | exact trivial | refine ⟨by first | exact rfl | assumption, ?_⟩)); done)); skip)); (try simp only [put, rowsOf, plR, selE, ovr, setH, del, cellsA, splice, isV, spq, if_true, if_false]))
    | (show AW _ _ _ _ _ _ _ _; first | refine aw_region ?_ | (refine aw_seqk ?_; intro K hK) | (apply aw_cond_t; exact rfl; exact (by assumption)) | (apply aw_cond_f; exact rfl; exact (by assumption)) | refine aw_exit ?_ | refine aw_skip ?_)
    | refine thn_n ?_
    | (refine hK _ _ _ ?_; clear hK K)
    | refine thn_e ?_
    | refine inb_same ?_
    | (clear hK K; refine hK _ _ _ ?_; clear hK K))); all_goals (repeat (clear hK K)))
                    all_goals exact finc_n (fun z => z) .r0 (by simp only [renA, renL]) (fun _ _ => rfl) ⟨rfl, trivial⟩ rfl
                  · have g2 : decide ((e : Int) < (b : Int)) = false := by simpa using y2
                    rw [← hwe] at g2
                    have hXl := hX.length_eq
                    rw [if_neg (by simp; omega)] at hXd
                    subst hXd
                    have hvX := hv.perm hX
                    have hi2 : ¬ (decide (a < i) && decide (i < d)) = true := by simp; omega
                    rw [if_neg hi2] at hQ
                    have hi3 : ¬ (decide (d < e) && decide (e < b)) = true := by simp; omega
                    rw [if_neg hi3] at hQ
                    subst hQ
                    ((repeat' (first
    | (show SQ _ _ _ _ _ _ _ _; first | apply sq_nil | (apply q_move; exact rfl; exact rfl) | (apply q_assign; exact rfl; exact rfl) | (apply q_pick_t; (iterate 3 exact rfl); exact (by first | assumption | exact rfl)) | (apply q_sub; iterate 3 exact rfl) | (apply q_lss; iterate 3 exact rfl) | (apply q_g; (iterate 3 exact rfl); exact (by assumption)))
    | (show AW _ _ _ _ _ _ _ _; first | refine aw_region ?_ | (refine aw_seqk ?_; intro K hK) | (apply aw_cond_f; exact rfl; exact (by assumption)) | refine aw_exit ?_ | refine aw_skip ?_)
    | refine thn_n ?_
    | (refine hK _ _ _ ?_; clear hK K)
    | refine thn_e ?_
    | refine inb_same ?_
    | (clear hK K; refine hK _ _ _ ?_; clear hK K))); all_goals (repeat (clear hK K)))
                    all_goals exact finc_n (fun z => z) .r0 (by simp only [renA, renL]) (fun _ _ => rfl) ⟨rfl, trivial⟩ rfl
                · have f2 : decide ((d : Int) < (e : Int)) = false := by simpa using x2
                  rw [← hwe] at f2
                  have hXl := hX.length_eq
                  rw [if_neg (by simp; omega)] at hXd
                  subst hXd
                  have hvX := hv.perm hX
                  have hi2 : ¬ (decide (a < i) && decide (i < d)) = true := by simp; omega
                  rw [if_neg hi2] at hQ
                  have hi3 : ¬ (decide (d < e) && decide (e < b)) = true := by simp; omega
                  rw [if_neg hi3] at hQ
                  subst hQ
                  ((repeat' (first
    | (show SQ _ _ _ _ _ _ _ _; first | apply sq_nil | (apply q_move; exact rfl; exact rfl) | (apply q_assign; exact rfl; exact rfl) | (apply q_pick_t; (iterate 3 exact rfl); exact (by first | assumption | exact rfl)) | (apply q_pick_f; (iterate 3 exact rfl); exact (by first | assumption | exact rfl)) | (apply q_sub; iterate 3 exact rfl) | (apply q_lss; iterate 3 exact rfl) | (apply q_g; (iterate 3 exact rfl); exact (by assumption)) | (apply q_s; (iterate 3 exact rfl); exact (by assumption); exact rfl))
    | (show AW _ _ _ _ _ _ _ _; first | refine aw_region ?_ | (refine aw_seqk ?_; intro K hK) | (apply aw_cond_f; exact rfl; exact rfl) | (apply aw_cond_f; exact rfl; exact (by assumption)) | refine aw_exit ?_ | refine aw_skip ?_)
    | refine thn_n ?_
    | (refine hK _ _ _ ?_; clear hK K)
    | refine thn_e ?_
    | refine inb_same ?_
    | (clear hK K; refine hK _ _ _ ?_; clear hK K))); all_goals (repeat (clear hK K)))
                  all_goals exact finc_n (fun z => z) .r0 (by simp only [renA, renL]) (fun _ _ => rfl) ⟨rfl, trivial⟩ rfl
            · have f1 : decide ((a : Int) < (i : Int)) = false := by simpa using x1
              by_cases x2 : d < e
              · have f2 : decide ((d : Int) < (e : Int)) = true := by simpa using x2
                rw [← hwe] at f2
                by_cases y2 : e < b
                · have g2 : decide ((e : Int) < (b : Int)) = true := by simpa using y2
                  rw [← hwe] at g2
                  have hXl := hX.length_eq
                  rw [if_neg (by simp; omega)] at hXd
                  subst hXd
                  have hvX := hv.perm hX
                  have hi2 : ¬ (decide (a < i) && decide (i < d)) = true := by simp; omega
                  rw [if_neg hi2] at hQ
                  have hB := hI X d e b (by omega) hvX (by omega) (by omega) (by omega) (by omega) 0 1
                  have hi3 : (decide (d < e) && decide (e < b)) = true := by simp; omega
                  rw [if_pos hi3] at hQ
                  rw [hXl, hQ, ← hwe] at hB
                  ((repeat' (first
    | (show SQ _ _ _ _ _ _ _ _; first | apply sq_nil | (apply q_move; exact rfl; exact rfl) | (apply q_assign; exact rfl; exact rfl) | (apply q_pick_t; (iterate 3 exact rfl); exact (by first | assumption | exact rfl)) | (apply q_pick_f; (iterate 3 exact rfl); exact (by first | assumption | exact rfl)) | (apply q_sub; iterate 3 exact rfl) | (apply q_lss; iterate 3 exact rfl) | (apply q_g; (iterate 3 exact rfl); exact (by assumption)) | (apply q_s; (iterate 3 exact rfl); exact (by assumption); exact rfl))
    | (show SQ _ _ _ _ _ _ _ _; (first | (apply q_callC; (iterate 3 exact rfl); exact hB; (focus ((repeat (first | exact trivial | refine ⟨by first | exact rfl | assumption, ?_⟩)); done)); skip)); (try simp only [put, rowsOf, plR, selE, ovr, setH, del, cellsA, splice, isV, spq, if_true, if_false]))
    | (show AW _ _ _ _ _ _ _ _; first | refine aw_region ?_ | (refine aw_seqk ?_; intro K hK) | (apply aw_cond_f; exact rfl; exact rfl) | (apply aw_cond_t; exact rfl; exact (by assumption)) | (apply aw_cond_f; exact rfl; exact (by assumption)) | refine aw_exit ?_ | refine aw_skip ?_)
    | refine thn_n ?_
    | (refine hK _ _ _ ?_; clear hK K)
    | refine thn_e ?_
    | refine inb_same ?_
    | (clear hK K; refine hK _ _ _ ?_; clear hK K))); all_goals (repeat (clear hK K)))
                  all_goals exact finc_n (fun z => z) .r0 (by simp only [renA, renL]) (fun _ _ => rfl) ⟨rfl, trivial⟩ rfl
                · have g2 : decide ((e : Int) < (b : Int)) = false := by simpa using y2
                  rw [← hwe] at g2
                  have hXl := hX.length_eq
                  rw [if_neg (by simp; omega)] at hXd
                  subst hXd
                  have hvX := hv.perm hX
                  have hi2 : ¬ (decide (a < i) && decide (i < d)) = true := by simp; omega
                  rw [if_neg hi2] at hQ
                  have hi3 : ¬ (decide (d < e) && decide (e < b)) = true := by simp; omega
                  rw [if_neg hi3] at hQ
                  subst hQ
                  ((repeat' (first
    | (show SQ _ _ _ _ _ _ _ _; first | apply sq_nil | (apply q_move; exact rfl; exact rfl) | (apply q_assign; exact rfl; exact rfl) | (apply q_pick_t; (iterate 3 exact rfl); exact (by first | assumption | exact rfl)) | (apply q_pick_f; (iterate 3 exact rfl); exact (by first | assumption | exact rfl)) | (apply q_sub; iterate 3 exact rfl) | (apply q_lss; iterate 3 exact rfl) | (apply q_g; (iterate 3 exact rfl); exact (by assumption)) | (apply q_s; (iterate 3 exact rfl); exact (by assumption); exact rfl))
    | (show AW _ _ _ _ _ _ _ _; first | refine aw_region ?_ | (refine aw_seqk ?_; intro K hK) | (apply aw_cond_f; exact rfl; exact rfl) | (apply aw_cond_f; exact rfl; exact (by assumption)) | refine aw_exit ?_ | refine aw_skip ?_)
    | refine thn_n ?_
    | (refine hK _ _ _ ?_; clear hK K)
    | refine thn_e ?_
    | refine inb_same ?_
    | (clear hK K; refine hK _ _ _ ?_; clear hK K))); all_goals (repeat (clear hK K)))
                  all_goals exact finc_n (fun z => z) .r0 (by simp only [renA, renL]) (fun _ _ => rfl) ⟨rfl, trivial⟩ rfl
              · have f2 : decide ((d : Int) < (e : Int)) = false := by simpa using x2
                rw [← hwe] at f2
                have hXl := hX.length_eq
                rw [if_neg (by simp; omega)] at hXd
                subst hXd
                have hvX := hv.perm hX
                have hi2 : ¬ (decide (a < i) && decide (i < d)) = true := by simp; omega
                rw [if_neg hi2] at hQ
                have hi3 : ¬ (decide (d < e) && decide (e < b)) = true := by simp; omega
                rw [if_neg hi3] at hQ
                subst hQ
                ((repeat' (first
    | (show SQ _ _ _ _ _ _ _ _; first | apply sq_nil | (apply q_move; exact rfl; exact rfl) | (apply q_assign; exact rfl; exact rfl) | (apply q_pick_t; (iterate 3 exact rfl); exact (by first | assumption | exact rfl)) | (apply q_pick_f; (iterate 3 exact rfl); exact (by first | assumption | exact rfl)) | (apply q_sub; iterate 3 exact rfl) | (apply q_lss; iterate 3 exact rfl) | (apply q_g; (iterate 3 exact rfl); exact (by assumption)) | (apply q_s; (iterate 3 exact rfl); exact (by assumption); exact rfl))
    | (show AW _ _ _ _ _ _ _ _; first | refine aw_region ?_ | (refine aw_seqk ?_; intro K hK) | (apply aw_cond_f; exact rfl; exact rfl) | (apply aw_cond_f; exact rfl; exact (by assumption)) | refine aw_exit ?_ | refine aw_skip ?_)
    | refine thn_n ?_
    | (refine hK _ _ _ ?_; clear hK K)
    | refine thn_e ?_
    | refine inb_same ?_
    | (clear hK K; refine hK _ _ _ ?_; clear hK K))); all_goals (repeat (clear hK K)))
                all_goals exact finc_n (fun z => z) .r0 (by simp only [renA, renL]) (fun _ _ => rfl) ⟨rfl, trivial⟩ rfl
        · have f0 : decide ((i : Int) < (m : Int)) = false := by simpa using x0
          by_cases x1 : a < i
          · have f1 : decide ((a : Int) < (i : Int)) = true := by simpa using x1
            by_cases y1 : i < d
            · have g1 : decide ((i : Int) < (d : Int)) = true := by simpa using y1
              by_cases x2 : d < e
              · have f2 : decide ((d : Int) < (e : Int)) = true := by simpa using x2
                rw [← hwe] at f2
                by_cases y2 : e < b
                · have g2 : decide ((e : Int) < (b : Int)) = true := by simpa using y2
                  rw [← hwe] at g2
                  have hXl := hX.length_eq
                  rw [if_neg (by simp; omega)] at hXd
                  subst hXd
                  have hvX := hv.perm hX
                  have hA := hI X a i d (by omega) hvX (by omega) (by omega) (by omega) (by omega) 0 1
                  have hAp := symF_perm (lt := ltO ls) (f := f) (a := a) (m := i) (b := d) (xs := X) (by omega) (by omega) (by omega)
                  have hAl := hAp.length_eq
                  have hvA := hvX.perm hAp
                  have hi2 : (decide (a < i) && decide (i < d)) = true := by simp; omega
                  rw [if_pos hi2] at hQ
                  generalize hY : symF (ltO ls) f a i d X = Y at *
                  have hB := hI Y d e b (by omega) hvA (by omega) (by omega) (by omega) (by omega) 0 1
                  have hi3 : (decide (d < e) && decide (e < b)) = true := by simp; omega
                  rw [if_pos hi3] at hQ
                  rw [hXl] at hA
                  rw [hAl, hXl, hQ, ← hwe] at hB
                  ((repeat' (first
    | (show SQ _ _ _ _ _ _ _ _; first | apply sq_nil | (apply q_move; exact rfl; exact rfl) | (apply q_assign; exact rfl; exact rfl) | (apply q_pick_t; (iterate 3 exact rfl); exact (by first | assumption | exact rfl)) | (apply q_pick_f; (iterate 3 exact rfl); exact (by first | assumption | exact rfl)) | (apply q_sub; iterate 3 exact rfl) | (apply q_lss; iterate 3 exact rfl) | (apply q_g; (iterate 3 exact rfl); exact (by assumption)) | (apply q_s; (iterate 3 exact rfl); exact (by assumption); exact rfl))
    | (show SQ _ _ _ _ _ _ _ _; (first | (apply q_callC; (iterate 3 exact rfl); exact hA; (focus ((repeat (first | exact trivial | refine ⟨by first | exact rfl | assumption, ?_⟩)); done)); skip) | (apply q_callC; (iterate 3 exact rfl); exact hB; (focus ((repeat (first | exact trivial | refine ⟨by first | exact rfl | assumption, ?_⟩)); done)); skip)); (try simp only [put, rowsOf, plR, selE, ovr, setH, del, cellsA, splice, isV, spq, if_true, if_false]))
    | (show AW _ _ _ _ _ _ _ _; first | refine aw_region ?_ | (refine aw_seqk ?_; intro K hK) | (apply aw_cond_f; exact rfl; exact rfl) | (apply aw_cond_t; exact rfl; exact (by assumption)) | (apply aw_cond_f; exact rfl; exact (by assumption)) | refine aw_exit ?_ | refine aw_skip ?_)
    | refine thn_n ?_
    | (refine hK _ _ _ ?_; clear hK K)
    | refine thn_e ?_
    | refine inb_same ?_
    | (clear hK K; refine hK _ _ _ ?_; clear hK K))); all_goals (repeat (clear hK K)))
                  all_goals exact finc_n (fun z => z) .r0 (by simp only [renA, renL]) (fun _ _ => rfl) ⟨rfl, trivial⟩ rfl
                · have g2 : decide ((e : Int) < (b : Int)) = false := by simpa using y2
                  rw [← hwe] at g2
                  have hXl := hX.length_eq
                  rw [if_neg (by simp; omega)] at hXd
                  subst hXd
                  have hvX := hv.perm hX
                  have hA := hI X a i d (by omega) hvX (by omega) (by omega) (by omega) (by omega) 0 1
                  have hAp := symF_perm (lt := ltO ls) (f := f) (a := a) (m := i) (b := d) (xs := X) (by omega) (by omega) (by omega)
                  have hAl := hAp.length_eq
                  have hvA := hvX.perm hAp
                  have hi2 : (decide (a < i) && decide (i < d)) = true := by simp; omega
                  rw [if_pos hi2] at hQ
                  generalize hY : symF (ltO ls) f a i d X = Y at *
                  have hi3 : ¬ (decide (d < e) && decide (e < b)) = true := by simp; omega
                  rw [if_neg hi3] at hQ
                  rw [hXl] at hA
                  subst hQ
                  ((repeat' (first
    | (show SQ _ _ _ _ _ _ _ _; first | apply sq_nil | (apply q_move; exact rfl; exact rfl) | (apply q_assign; exact rfl; exact rfl) | (apply q_pick_t; (iterate 3 exact rfl); exact (by first | assumption | exact rfl)) | (apply q_pick_f; (iterate 3 exact rfl); exact (by first | assumption | exact rfl)) | (apply q_sub; iterate 3 exact rfl) | (apply q_lss; iterate 3 exact rfl) | (apply q_g; (iterate 3 exact rfl); exact (by assumption)) | (apply q_s; (iterate 3 exact rfl); exact (by assumption); exact rfl))
    | (show SQ _ _ _ _ _ _ _ _; (first | (apply q_callC; (iterate 3 exact rfl); exact hA; (focus ((repeat (first | exact trivial | refine ⟨by first | exact rfl | assumption, ?_⟩)); done)); skip)); (try simp only [put, rowsOf, plR, selE, ovr, setH, del, cellsA, splice, isV, spq, if_true, if_false]))
    | (show AW _ _ _ _ _ _ _ _; first | refine aw_region ?_ | (refine aw_seqk ?_; intro K hK) | (apply aw_cond_f; exact rfl; exact rfl) | (apply aw_cond_t; exact rfl; exact (by assumption)) | (apply aw_cond_f; exact rfl; exact (by assumption)) | refine aw_exit ?_ | refine aw_skip ?_)
    | refine thn_n ?_
    | (refine hK _ _ _ ?_; clear hK K)
    | refine thn_e ?_
    | refine inb_same ?_
    | (clear hK K; refine hK _ _ _ ?_; clear hK K))); all_goals (repeat (clear hK K)))
                  all_goals exact finc_n (fun z => z) .r0 (by simp only [renA, renL]) (fun _ _ => rfl) ⟨rfl, trivial⟩ rfl
              · have f2 : decide ((d : Int) < (e : Int)) = false := by simpa using x2
                rw [← hwe] at f2
                have hXl := hX.length_eq
                rw [if_neg (by simp; omega)] at hXd
                subst hXd
                have hvX := hv.perm hX
                have hA := hI X a i d (by omega) hvX (by omega) (by omega) (by omega) (by omega) 0 1
                have hAp := symF_perm (lt := ltO ls) (f := f) (a := a) (m := i) (b := d) (xs := X) (by omega) (by omega) (by omega)
                have hAl := hAp.length_eq
                have hvA := hvX.perm hAp
                have hi2 : (decide (a < i) && decide (i < d)) = true := by simp; omega
                rw [if_pos hi2] at hQ
                generalize hY : symF (ltO ls) f a i d X = Y at *
                have hi3 : ¬ (decide (d < e) && decide (e < b)) = true := by simp; omega
                rw [if_neg hi3] at hQ
                rw [hXl] at hA
                subst hQ
                ((repeat' (first
    | (show SQ _ _ _ _ _ _ _ _; first | apply sq_nil | (apply q_move; exact rfl; exact rfl) | (apply q_assign; exact rfl; exact rfl) | (apply q_pick_t; (iterate 3 exact rfl); exact (by first | assumption | exact rfl)) | (apply q_pick_f; (iterate 3 exact rfl); exact (by first | assumption | exact rfl)) | (apply q_sub; iterate 3 exact rfl) | (apply q_lss; iterate 3 exact rfl) | (apply q_g; (iterate 3 exact rfl); exact (by assumption)) | (apply q_s; (iterate 3 exact rfl); exact (by assumption); exact rfl))
    | (show SQ _ _ _ _ _ _ _ _; (first | (apply q_callC; (iterate 3 exact rfl); exact hA; (focus ((repeat (first | exact trivial | refine ⟨by first | exact rfl | assumption, ?_⟩)); done)); skip)); (try simp only [put, rowsOf, plR, selE, ovr, setH, del, cellsA, splice, isV, spq, if_true, if_false]))
    | (show AW _ _ _ _ _ _ _ _; first | refine aw_region ?_ | (refine aw_seqk ?_; intro K hK) | (apply aw_cond_f; exact rfl; exact rfl) | (apply aw_cond_t; exact rfl; exact (by assumption)) | (apply aw_cond_f; exact rfl; exact (by assumption)) | refine aw_exit ?_ | refine aw_skip ?_)
    | refine thn_n ?_
    | (refine hK _ _ _ ?_; clear hK K)
    | refine thn_e ?_
    | refine inb_same ?_
    | (clear hK K; refine hK _ _ _ ?_; clear hK K))); all_goals (repeat (clear hK K)))
                all_goals exact finc_n (fun z => z) .r0 (by simp only [renA, renL]) (fun _ _ => rfl) ⟨rfl, trivial⟩ rfl
            · have g1 : decide ((i : Int) < (d : Int)) = false := by simpa using y1
              by_cases x2 : d < e
              · have f2 : decide ((d : Int) < (e : Int)) = true := by simpa using x2
                rw [← hwe] at f2
                by_cases y2 : e < b
                · have g2 : decide ((e : Int) < (b : Int)) = true := by simpa using y2
                  rw [← hwe] at g2
                  have hXl := hX.length_eq
                  rw [if_neg (by simp; omega)] at hXd
                  subst hXd
                  have hvX := hv.perm hX
                  have hi2 : ¬ (decide (a < i) && decide (i < d)) = true := by simp; omega
                  rw [if_neg hi2] at hQ
                  have hB := hI X d e b (by omega) hvX (by omega) (by omega) (by omega) (by omega) 0 1
                  have hi3 : (decide (d < e) && decide (e < b)) = true := by simp; omega
                  rw [if_pos hi3] at hQ
                  rw [hXl, hQ, ← hwe] at hB
                  ((repeat' (first
    | (show SQ _ _ _ _ _ _ _ _; first | apply sq_nil | (apply q_move; exact rfl; exact rfl) | (apply q_assign; exact rfl; exact rfl) | (apply q_pick_t; (iterate 3 exact rfl); exact (by first | assumption | exact rfl)) | (apply q_pick_f; (iterate 3 exact rfl); exact (by first | assumption | exact rfl)) | (apply q_sub; iterate 3 exact rfl) | (apply q_lss; iterate 3 exact rfl) | (apply q_g; (iterate 3 exact rfl); exact (by assumption)) | (apply q_s; (iterate 3 exact rfl); exact (by assumption); exact rfl))
    | (show SQ _ _ _ _ _ _ _ _; (first | (apply q_callC; (iterate 3 exact rfl); exact hB; (focus ((repeat (first | exact trivial | refine ⟨by first | exact rfl | assumption, ?_⟩)); done)); skip)); (try simp only [put, rowsOf, plR, selE, ovr, setH, del, cellsA, splice, isV, spq, if_true, if_false]))
    | (show AW _ _ _ _ _ _ _ _; first | refine aw_region ?_ | (refine aw_seqk ?_; intro K hK) | (apply aw_cond_f; exact rfl; exact rfl) | (apply aw_cond_t; exact rfl; exact (by assumption)) | (apply aw_cond_f; exact rfl; exact (by assumption)) | refine aw_exit ?_ | refine aw_skip ?_)
    | refine thn_n ?_
    | (refine hK _ _ _ ?_; clear hK K)
    | refine thn_e ?_
    | refine inb_same ?_
    | (clear hK K; refine hK _ _ _ ?_; clear hK K))); all_goals (repeat (clear hK K)))
                  all_goals exact finc_n (fun z => z) .r0 (by simp only [renA, renL]) (fun _ _ => rfl) ⟨rfl, trivial⟩ rfl
                · have g2 : decide ((e : Int) < (b : Int)) = false := by simpa using y2
                  rw [← hwe] at g2
                  have hXl := hX.length_eq
                  rw [if_neg (by simp; omega)] at hXd
                  subst hXd
                  have hvX := hv.perm hX
                  have hi2 : ¬ (decide (a < i) && decide (i < d)) = true := by simp; omega
                  rw [if_neg hi2] at hQ
                  have hi3 : ¬ (decide (d < e) && decide (e < b)) = true := by simp; omega
                  rw [if_neg hi3] at hQ
                  subst hQ
                  ((repeat' (first
    | (show SQ _ _ _ _ _ _ _ _; first | apply sq_nil | (apply q_move; exact rfl; exact rfl) | (apply q_assign; exact rfl; exact rfl) | (apply q_pick_t; (iterate 3 exact rfl); exact (by first | assumption | exact rfl)) | (apply q_pick_f; (iterate 3 exact rfl); exact (by first | assumption | exact rfl)) | (apply q_sub; iterate 3 exact rfl) | (apply q_lss; iterate 3 exact rfl) | (apply q_g; (iterate 3 exact rfl); exact (by assumption)) | (apply q_s; (iterate 3 exact rfl); exact (by assumption); exact rfl))
    | (show AW _ _ _ _ _ _ _ _; first | refine aw_region ?_ | (refine aw_seqk ?_; intro K hK) | (apply aw_cond_f; exact rfl; exact rfl) | (apply aw_cond_f; exact rfl; exact (by assumption)) | refine aw_exit ?_ | refine aw_skip ?_)
    | refine thn_n ?_
    | (refine hK _ _ _ ?_; clear hK K)
    | refine thn_e ?_
    | refine inb_same ?_
    | (clear hK K; refine hK _ _ _ ?_; clear hK K))); all_goals (repeat (clear hK K)))
                  all_goals exact finc_n (fun z => z) .r0 (by simp only [renA, renL]) (fun _ _ => rfl) ⟨rfl, trivial⟩ rfl
              · have f2 : decide ((d : Int) < (e : Int)) = false := by simpa using x2
                rw [← hwe] at f2
                have hXl := hX.length_eq
                rw [if_neg (by simp; omega)] at hXd
                subst hXd
                have hvX := hv.perm hX
                have hi2 : ¬ (decide (a < i) && decide (i < d)) = true := by simp; omega
                rw [if_neg hi2] at hQ
                have hi3 : ¬ (decide (d < e) && decide (e < b)) = true := by simp; omega
                rw [if_neg hi3] at hQ
                subst hQ
                ((repeat' (first
    | (show SQ _ _ _ _ _ _ _ _; first | apply sq_nil | (apply q_move; exact rfl; exact rfl) | (apply q_assign; exact rfl; exact rfl) | (apply q_pick_t; (iterate 3 exact rfl); exact (by first | assumption | exact rfl)) | (apply q_pick_f; (iterate 3 exact rfl); exact (by first | assumption | exact rfl)) | (apply q_sub; iterate 3 exact rfl) | (apply q_lss; iterate 3 exact rfl) | (apply q_g; (iterate 3 exact rfl); exact (by assumption)) | (apply q_s; (iterate 3 exact rfl); exact (by assumption); exact rfl))
    | (show AW _ _ _ _ _ _ _ _; first | refine aw_region ?_ | (refine aw_seqk ?_; intro K hK) | (apply aw_cond_f; exact rfl; exact rfl) | (apply aw_cond_f; exact rfl; exact (by assumption)) | refine aw_exit ?_ | refine aw_skip ?_)
    | refine thn_n ?_
    | (refine hK _ _ _ ?_; clear hK K)
    | refine thn_e ?_
    | refine inb_same ?_
    | (clear hK K; refine hK _ _ _ ?_; clear hK K))); all_goals (repeat (clear hK K)))
                all_goals exact finc_n (fun z => z) .r0 (by simp only [renA, renL]) (fun _ _ => rfl) ⟨rfl, trivial⟩ rfl
          · have f1 : decide ((a : Int) < (i : Int)) = false := by simpa using x1
            by_cases x2 : d < e
            · have f2 : decide ((d : Int) < (e : Int)) = true := by simpa using x2
              rw [← hwe] at f2
              by_cases y2 : e < b
              · have g2 : decide ((e : Int) < (b : Int)) = true := by simpa using y2
                rw [← hwe] at g2
                have hXl := hX.length_eq
                rw [if_neg (by simp; omega)] at hXd
                subst hXd
                have hvX := hv.perm hX
                have hi2 : ¬ (decide (a < i) && decide (i < d)) = true := by simp; omega
                rw [if_neg hi2] at hQ
                have hB := hI X d e b (by omega) hvX (by omega) (by omega) (by omega) (by omega) 0 1
                have hi3 : (decide (d < e) && decide (e < b)) = true := by simp; omega
                rw [if_pos hi3] at hQ
                rw [hXl, hQ, ← hwe] at hB
                ((repeat' (first
    | (show SQ _ _ _ _ _ _ _ _; first | apply sq_nil | (apply q_move; exact rfl; exact rfl) | (apply q_assign; exact rfl; exact rfl) | (apply q_pick_t; (iterate 3 exact rfl); exact (by first | assumption | exact rfl)) | (apply q_pick_f; (iterate 3 exact rfl); exact (by first | assumption | exact rfl)) | (apply q_sub; iterate 3 exact rfl) | (apply q_lss; iterate 3 exact rfl) | (apply q_g; (iterate 3 exact rfl); exact (by assumption)) | (apply q_s; (iterate 3 exact rfl); exact (by assumption); exact rfl))
    | (show SQ _ _ _ _ _ _ _ _; (first | (apply q_callC; (iterate 3 exact rfl); exact hB; (focus ((repeat (first | exact trivial | refine ⟨by first | exact rfl | assumption, ?_⟩)); done)); skip)); (try simp only [put, rowsOf, plR, selE, ovr, setH, del, cellsA, splice, isV, spq, if_true, if_false]))
    | (show AW _ _ _ _ _ _ _ _; first | refine aw_region ?_ | (refine aw_seqk ?_; intro K hK) | (apply aw_cond_f; exact rfl; exact rfl) | (apply aw_cond_t; exact rfl; exact (by assumption)) | (apply aw_cond_f; exact rfl; exact (by assumption)) | refine aw_exit ?_ | refine aw_skip ?_)
    | refine thn_n ?_
    | (refine hK _ _ _ ?_; clear hK K)
    | refine thn_e ?_
    | refine inb_same ?_
    | (clear hK K; refine hK _ _ _ ?_; clear hK K))); all_goals (repeat (clear hK K)))
                all_goals exact finc_n (fun z => z) .r0 (by simp only [renA, renL]) (fun _ _ => rfl) ⟨rfl, trivial⟩ rfl
              · have g2 : decide ((e : Int) < (b : Int)) = false := by simpa using y2
                rw [← hwe] at g2
                have hXl := hX.length_eq
                rw [if_neg (by simp; omega)] at hXd
                subst hXd
                have hvX := hv.perm hX
                have hi2 : ¬ (decide (a < i) && decide (i < d)) = true := by simp; omega
                rw [if_neg hi2] at hQ
                have hi3 : ¬ (decide (d < e) && decide (e < b)) = true := by simp; omega
                rw [if_neg hi3] at hQ
                subst hQ
                ((repeat' (first
    | (show SQ _ _ _ _ _ _ _ _; first | apply sq_nil | (apply q_move; exact rfl; exact rfl) | (apply q_assign; exact rfl; exact rfl) | (apply q_pick_t; (iterate 3 exact rfl); exact (by first | assumption | exact rfl)) | (apply q_pick_f; (iterate 3 exact rfl); exact (by first | assumption | exact rfl)) | (apply q_sub; iterate 3 exact rfl) | (apply q_lss; iterate 3 exact rfl) | (apply q_g; (iterate 3 exact rfl); exact (by assumption)) | (apply q_s; (iterate 3 exact rfl); exact (by assumption); exact rfl))
    | (show AW _ _ _ _ _ _ _ _; first | refine aw_region ?_ | (refine aw_seqk ?_; intro K hK) | (apply aw_cond_f; exact rfl; exact rfl) | (apply aw_cond_f; exact rfl; exact (by assumption)) | refine aw_exit ?_ | refine aw_skip ?_)
    | refine thn_n ?_
    | (refine hK _ _ _ ?_; clear hK K)
    | refine thn_e ?_
    | refine inb_same ?_
    | (clear hK K; refine hK _ _ _ ?_; clear hK K))); all_goals (repeat (clear hK K)))
                all_goals exact finc_n (fun z => z) .r0 (by simp only [renA, renL]) (fun _ _ => rfl) ⟨rfl, trivial⟩ rfl
            · have f2 : decide ((d : Int) < (e : Int)) = false := by simpa using x2
              rw [← hwe] at f2
              have hXl := hX.length_eq
              rw [if_neg (by simp; omega)] at hXd
              subst hXd
              have hvX := hv.perm hX
              have hi2 : ¬ (decide (a < i) && decide (i < d)) = true := by simp; omega
              rw [if_neg hi2] at hQ
              have hi3 : ¬ (decide (d < e) && decide (e < b)) = true := by simp; omega
              rw [if_neg hi3] at hQ
              subst hQ
              ((repeat' (first
    | (show SQ _ _ _ _ _ _ _ _; first | apply sq_nil | (apply q_move; exact rfl; exact rfl) | (apply q_assign; exact rfl; exact rfl) | (apply q_pick_f; (iterate 3 exact rfl); exact (by first | assumption | exact rfl)) | (apply q_sub; iterate 3 exact rfl) | (apply q_lss; iterate 3 exact rfl) | (apply q_s; (iterate 3 exact rfl); exact (by assumption); exact rfl))
    | (show AW _ _ _ _ _ _ _ _; first | refine aw_region ?_ | (refine aw_seqk ?_; intro K hK) | (apply aw_cond_f; exact rfl; exact rfl) | (apply aw_cond_f; exact rfl; exact (by assumption)) | refine aw_exit ?_ | refine aw_skip ?_)
    | refine thn_n ?_
    | (refine hK _ _ _ ?_; clear hK K)
    | refine thn_e ?_
    | refine inb_same ?_
    | (clear hK K; refine hK _ _ _ ?_; clear hK K))); all_goals (repeat (clear hK K)))
              all_goals exact finc_n (fun z => z) .r0 (by simp only [renA, renL]) (fun _ _ => rfl) ⟨rfl, trivial⟩ rfl
    · have b3 : decide ((d : Int) < (m : Int)) = false := by simpa using k3
      rw [← hmd] at b3
      ((repeat' (first
    | (show SQ _ _ _ _ _ _ _ _; first | apply sq_nil | (apply q_move; exact rfl; exact rfl) | (apply q_assign; exact rfl; exact rfl) | (apply q_conv; exact rfl; exact rfl; exact (ty rfl); exact rfl; exact (ty rfl)) | (apply q_add; iterate 3 exact rfl) | (apply q_sub; iterate 3 exact rfl) | (apply q_eql; iterate 3 exact rfl) | (apply q_gtr; iterate 3 exact rfl) | (apply q_shr; (iterate 3 exact rfl); exact (by first | omega | (simp; done) | (simp; omega))))
    | (show AW _ _ _ _ _ _ _ _; first | refine aw_region ?_ | (refine aw_seqk ?_; intro K hK) | refine aw_block ?_ | (apply aw_cond_f; exact rfl; exact (by assumption)) | refine aw_skip ?_)
    | refine thn_n ?_
    | (refine hK _ _ _ ?_; clear hK K))); all_goals (repeat (clear hK K)))
      rw [hmd, hwn, hwp]
      obtain ⟨q1, q2, q3, q4, q5, q6⟩ := key a m (if_neg k3) (if_neg k3)
      rw [if_neg k3, if_neg k3] at hSd
      refine aw_loop (ρ := fun z => z) (ι := Nat × Nat × Nat) (fun s => ([(22, .v (.int .i64 ((d + m - 1 : Nat) : Int))), (21, .v (.int .i64 (s.2.2 : Int))), (20, .v (.int .i64 (s.2.1 : Int))), (19, .v (.int .i64 ((d + m : Nat) : Int))), (18, .v (.int .i64 (d : Int))), (4, stC n ls), (3, .v (.int .i64 (b : Int))), (2, .v (.int .i64 (m : Int))), (1, .v (.int .i64 (a : Int))), (0, .sl 0 0 xs.length)], [(0, ⟨2, 1, true, xs.map inL⟩)], 1))
        (fun s => d + m ≤ b + s.2.1 ∧ s.2.1 ≤ s.2.2 ∧ s.2.2 ≤ m ∧ s.2.2 ≤ d ∧ s.2.2 - s.2.1 ≤ s.1 ∧ bisF (fun c => !ltO ls (xs.getD (d + m - 1 - c) 0) (xs.getD c 0)) s.1 s.2.1 s.2.2 = S) (fun s => s.1) (m - a, a, m) ⟨by dsimp only; omega, by dsimp only; omega, by dsimp only; omega, by dsimp only; omega, Nat.le_refl _, hSd.symm⟩ ⟨by (repeat (refine ⟨by first | exact lk_i rfl rfl | exact lk_s rfl rfl rfl rfl | exact lk_f rfl, ?_⟩)); exact trivial, by (repeat (refine ⟨by first | exact ⟨rfl, rfl, rfl⟩, ?_⟩)); exact trivial, by rfl, by (intro i hi; (try dsimp only); refine ⟨?_, ?_⟩ <;> first | rfl | omega | (simp at hi; omega) | (simp; omega))⟩ ?_
      rintro ⟨g, i, j⟩ ⟨i1, ij, jm, jd, hg1, hg⟩
      dsimp only at i1 ij jm jd hg1 hg
      dsimp only
      by_cases c1 : i < j
      · have b1 : decide ((i : Int) < (j : Int)) = true := by simpa using c1
        obtain ⟨g, rfl⟩ : ∃ g', g = g' + 1 := ⟨g - 1, by omega⟩
        rw [bisF, if_pos c1] at hg
        have hh := half_eq (i := i) (j := j) (by omega)
        have hlo := (show i ≤ (i + j) / 2 by omega)
        have hhi := (show (i + j) / 2 < j by omega)
        generalize (i + j) / 2 = h at *
        have hwp2 : IntKind.i64.wrap (((d + m - 1 : Nat) : Int) - (h : Int)) = ((d + m - 1 - h : Nat) : Int) := by rw [IntWalk.i64_in _ (by omega)]; omega
        have hr1 := inL_get (xs := xs) (i := d + m - 1 - h) (by omega)
        have hr2 := inL_get (xs := xs) (i := h) (by omega)
        have hC := stClos_ro n ls (xs.getD (d + m - 1 - h) 0) (xs.getD h 0) hn (hv.at (by omega)) (hv.at (by omega))
        have hw1 : IntKind.i64.wrap ((h : Int) + 1) = ((h + 1 : Nat) : Int) := by rw [IntWalk.i64_in _ (by omega)]; omega
        rw [← hwp2] at hr1
        by_cases c2 : kO ls (xs.getD (d + m - 1 - h) 0) < kO ls (xs.getD h 0)
        · have b2 : decide (i64c (kO ls (xs.getD (d + m - 1 - h) 0)) (kO ls (xs.getD h 0)) < 0) = true := by rw [i64c_lt]; simpa using c2
          have b22 : (!decide (i64c (kO ls (xs.getD (d + m - 1 - h) 0)) (kO ls (xs.getD h 0)) < 0)) = false := by rw [b2]; rfl
          rw [if_neg (by simpa [ltO] using c2)] at hg
          rw [← hh] at hr1 hr2 hw1 hwp2
          ((repeat' (first
    | (show SQ _ _ _ _ _ _ _ _; first | apply sq_nil | (apply q_move; exact rfl; exact rfl) | (apply q_assign; exact rfl; exact rfl) | (apply q_conv; exact rfl; exact rfl; exact (ty rfl); exact rfl; exact (ty rfl)) | (apply q_add; iterate 3 exact rfl) | (apply q_lss; iterate 3 exact rfl) | (apply q_shr; (iterate 3 exact rfl); exact (by first | omega | (simp; done) | (simp; omega))))
    | (show DE _ _ _ _ _ _ _ _ _ _ _ _; first | (apply e_move; iterate 3 exact rfl) | (apply e_not; iterate 3 exact rfl) | (apply e_sub; iterate 4 exact rfl) | (apply e_lss; iterate 4 exact rfl) | (apply e_ixl; (iterate 3 exact rfl); exact (ty rfl); (iterate 3 exact rfl); exact (by first | omega | (simp; done) | (simp; omega)); exact (by first | omega | (simp; done) | (simp; omega)); exact rfl) | (apply e_ld1p; exact rfl; exact rfl; exact (ty rfl); exact rfl; exact rfl; exact (by first | rfl | assumption | ((try simp only [Nat.zero_add]); refine List.getElem?_set_self ?_; (try simp only [List.length_set]); assumption)); exact rfl; exact rfl))
    | (show DE _ _ _ _ _ _ _ _ _ _ _ _; (first | (apply dr_nil; exact trivial) | (apply e_callU; (iterate 3 exact rfl); exact FzL.of rfl; exact hC _; exact rfl)); (try simp only [put, rowsOf, plR, selE, ovr, setH, del, cellsA, splice, isV, spq, if_true, if_false]))
    | (show AW _ _ _ _ _ _ _ _; first | refine aw_region ?_ | (refine aw_seqk ?_; intro K hK) | refine aw_block ?_ | (apply aw_cond_t; exact rfl; exact (by assumption)) | (apply aw_cond_f; exact rfl; exact (by assumption)) | refine aw_skip ?_ | refine aw_drawE (id := 35) [0, 0, 0, 0, 12, 30, 62, 0, 0, 384, 896, 2047, 4095, 8191] [0, 0, 0, 0, 0, 1, 1, 0, 0, 1, 1, 1, 0, 0] mixed (by kernel_rfl) ?_)
    | refine thn_n ?_
    | (refine hK _ _ _ ?_; clear hK K)
    | refine inb_n ?_)); all_goals (repeat (clear hK K)))
          all_goals (refine ⟨(g, i, h), fun z => z, ⟨i1, by dsimp only; omega, by dsimp only; omega, by dsimp only; omega, by dsimp only; omega, hg⟩, by dsimp only; omega, ?_⟩; (try dsimp only); rw [← hh]; exact ⟨by (repeat (refine ⟨by first | exact lk_i rfl rfl | exact lk_s rfl rfl rfl rfl | exact lk_f rfl, ?_⟩)); exact trivial, by (repeat (refine ⟨by first | exact ⟨rfl, rfl, rfl⟩, ?_⟩)); exact trivial, by rfl, by (intro i hi; (try dsimp only); refine ⟨?_, ?_⟩ <;> first | rfl | omega | (simp at hi; omega) | (simp; omega))⟩)
        · have b2 : decide (i64c (kO ls (xs.getD (d + m - 1 - h) 0)) (kO ls (xs.getD h 0)) < 0) = false := by rw [i64c_lt]; simpa using c2
          have b22 : (!decide (i64c (kO ls (xs.getD (d + m - 1 - h) 0)) (kO ls (xs.getD h 0)) < 0)) = true := by rw [b2]; rfl
          rw [if_pos (by simpa [ltO] using c2)] at hg
          rw [← hh] at hr1 hr2 hw1 hwp2
          ((repeat' (first
    | (show SQ _ _ _ _ _ _ _ _; first | apply sq_nil | (apply q_move; exact rfl; exact rfl) | (apply q_assign; exact rfl; exact rfl) | (apply q_conv; exact rfl; exact rfl; exact (ty rfl); exact rfl; exact (ty rfl)) | (apply q_add; iterate 3 exact rfl) | (apply q_lss; iterate 3 exact rfl) | (apply q_shr; (iterate 3 exact rfl); exact (by first | omega | (simp; done) | (simp; omega))))
    | (show DE _ _ _ _ _ _ _ _ _ _ _ _; first | (apply e_move; iterate 3 exact rfl) | (apply e_not; iterate 3 exact rfl) | (apply e_sub; iterate 4 exact rfl) | (apply e_lss; iterate 4 exact rfl) | (apply e_ixl; (iterate 3 exact rfl); exact (ty rfl); (iterate 3 exact rfl); exact (by first | omega | (simp; done) | (simp; omega)); exact (by first | omega | (simp; done) | (simp; omega)); exact rfl) | (apply e_ld1p; exact rfl; exact rfl; exact (ty rfl); exact rfl; exact rfl; exact (by first | rfl | assumption | ((try simp only [Nat.zero_add]); refine List.getElem?_set_self ?_; (try simp only [List.length_set]); assumption)); exact rfl; exact rfl))
    | (show DE _ _ _ _ _ _ _ _ _ _ _ _; (first | (apply dr_nil; exact trivial) | (apply e_callU; (iterate 3 exact rfl); exact FzL.of rfl; exact hC _; exact rfl)); (try simp only [put, rowsOf, plR, selE, ovr, setH, del, cellsA, splice, isV, spq, if_true, if_false]))
    | (show AW _ _ _ _ _ _ _ _; first | refine aw_region ?_ | (refine aw_seqk ?_; intro K hK) | refine aw_block ?_ | (apply aw_cond_t; exact rfl; exact (by assumption)) | refine aw_skip ?_ | refine aw_drawE (id := 35) [0, 0, 0, 0, 12, 30, 62, 0, 0, 384, 896, 2047, 4095, 8191] [0, 0, 0, 0, 0, 1, 1, 0, 0, 1, 1, 1, 0, 0] mixed (by kernel_rfl) ?_)
    | refine thn_n ?_
    | (refine hK _ _ _ ?_; clear hK K)
    | refine inb_n ?_)); all_goals (repeat (clear hK K)))
          all_goals (refine ⟨(g, h + 1, j), fun z => z, ⟨by dsimp only; omega, by dsimp only; omega, jm, jd, by dsimp only; omega, hg⟩, by dsimp only; omega, ?_⟩; (try dsimp only); rw [← hw1]; exact ⟨by (repeat (refine ⟨by first | exact lk_i rfl rfl | exact lk_s rfl rfl rfl rfl | exact lk_f rfl, ?_⟩)); exact trivial, by (repeat (refine ⟨by first | exact ⟨rfl, rfl, rfl⟩, ?_⟩)); exact trivial, by rfl, by (intro i hi; (try dsimp only); refine ⟨?_, ?_⟩ <;> first | rfl | omega | (simp at hi; omega) | (simp; omega))⟩)
      · have b1 : decide ((i : Int) < (j : Int)) = false := by simpa using c1
        obtain rfl : i = j := by omega
        have hiq : i = S := by
          rw [← hg]
          cases g with
          | zero => rfl
          | succ g => rw [bisF, if_neg c1]
        subst hiq
        have hwe : IntKind.i64.wrap (((d + m : Nat) : Int) - (i : Int)) = ((d + m - i : Nat) : Int) := by rw [IntWalk.i64_in _ (by omega)]; omega
        generalize he : d + m - i = e at *
        by_cases x0 : i < m
        · have f0 : decide ((i : Int) < (m : Int)) = true := by simpa using x0
          by_cases y0 : m < e
          · have g0 : decide ((m : Int) < (e : Int)) = true := by simpa using y0
            rw [← hwe] at g0
            by_cases x1 : a < i
            · have f1 : decide ((a : Int) < (i : Int)) = true := by simpa using x1
              by_cases y1 : i < d
              · have g1 : decide ((i : Int) < (d : Int)) = true := by simpa using y1
                by_cases x2 : d < e
                · have f2 : decide ((d : Int) < (e : Int)) = true := by simpa using x2
                  rw [← hwe] at f2
                  by_cases y2 : e < b
                  · have g2 : decide ((e : Int) < (b : Int)) = true := by simpa using y2
                    rw [← hwe] at g2
                    have hXl := hX.length_eq
                    rw [if_pos (by simp; omega)] at hXd
                    have hR := rotate_rc n ls xs i m e hx (by omega) (by omega) (by omega) 0 1
                    rw [← hXd] at hR
                    have hvX := hv.perm hX
                    have hA := hI X a i d (by omega) hvX (by omega) (by omega) (by omega) (by omega) 0 1
                    have hAp := symF_perm (lt := ltO ls) (f := f) (a := a) (m := i) (b := d) (xs := X) (by omega) (by omega) (by omega)
                    have hAl := hAp.length_eq
                    have hvA := hvX.perm hAp
                    have hi2 : (decide (a < i) && decide (i < d)) = true := by simp; omega
                    rw [if_pos hi2] at hQ
                    generalize hY : symF (ltO ls) f a i d X = Y at *
                    have hB := hI Y d e b (by omega) hvA (by omega) (by omega) (by omega) (by omega) 0 1
                    have hi3 : (decide (d < e) && decide (e < b)) = true := by simp; omega
                    rw [if_pos hi3] at hQ
                    rw [← hwe] at hR
                    rw [hXl] at hA
                    rw [hAl, hXl, hQ, ← hwe] at hB
                    ((repeat' (first
    | (show SQ _ _ _ _ _ _ _ _; first | apply sq_nil | (apply q_move; exact rfl; exact rfl) | (apply q_assign; exact rfl; exact rfl) | (apply q_pick_t; (iterate 3 exact rfl); exact (by first | assumption | exact rfl)) | (apply q_sub; iterate 3 exact rfl) | (apply q_lss; iterate 3 exact rfl) | (apply q_g; (iterate 3 exact rfl); exact (by assumption)))
    | (show SQ _ _ _ _ _ _ _ _; (first | (apply q_callC; (iterate 3 exact rfl); exact hR; (focus ((repeat (first | exact trivial | refine ⟨by first | exact rfl | assumption, ?_⟩)); done)); skip) | (apply q_callC; (iterate 3 exact rfl); exact hA; (focus ((repeat (first | exact trivial | refine ⟨by first | exact rfl | assumption, ?_⟩)); done)); skip) | (apply q_callC; (iterate 3 exact rfl); exact hB; (focus ((repeat (first | exact trivial | refine ⟨by first | exact rfl | assumption, ?_⟩)); done)); skip)); (try simp only [put, rowsOf, plR, selE, ovr, setH, del, cellsA, splice, isV, spq, if_true, if_false]))
    | (show AW _ _ _ _ _ _ _ _; first | refine aw_region ?_ | (refine aw_seqk ?_; intro K hK) | (apply aw_cond_t; exact rfl; exact (by assumption)) | (apply aw_cond_f; exact rfl; exact (by assumption)) | refine aw_exit ?_)
    | refine thn_n ?_
    | (refine hK _ _ _ ?_; clear hK K)
    | refine thn_e ?_
    | refine inb_same ?_
    | (clear hK K; refine hK _ _ _ ?_; clear hK K))); all_goals (repeat (clear hK K)))
                    all_goals exact finc_n (fun z => z) .r0 (by simp only [renA, renL]) (fun _ _ => rfl) ⟨rfl, trivial⟩ rfl
                  · have g2 : decide ((e : Int) < (b : Int)) = false := by simpa using y2
                    rw [← hwe] at g2
                    have hXl := hX.length_eq
                    rw [if_pos (by simp; omega)] at hXd
                    have hR := rotate_rc n ls xs i m e hx (by omega) (by omega) (by omega) 0 1
                    rw [← hXd] at hR
                    have hvX := hv.perm hX
                    have hA := hI X a i d (by omega) hvX (by omega) (by omega) (by omega) (by omega) 0 1
                    have hAp := symF_perm (lt := ltO ls) (f := f) (a := a) (m := i) (b := d) (xs := X) (by omega) (by omega) (by omega)
                    have hAl := hAp.length_eq
                    have hvA := hvX.perm hAp
                    have hi2 : (decide (a < i) && decide (i < d)) = true := by simp; omega
                    rw [if_pos hi2] at hQ
                    generalize hY : symF (ltO ls) f a i d X = Y at *
                    have hi3 : ¬ (decide (d < e) && decide (e < b)) = true := by simp; omega
                    rw [if_neg hi3] at hQ
                    rw [← hwe] at hR
                    rw [hXl] at hA
                    subst hQ
                    ((repeat' (first
    | (show SQ _ _ _ _ _ _ _ _; first | apply sq_nil | (apply q_move; exact rfl; exact rfl) | (apply q_assign; exact rfl; exact rfl) | (apply q_pick_t; (iterate 3 exact rfl); exact (by first | assumption | exact rfl)) | (apply q_sub; iterate 3 exact rfl) | (apply q_lss; iterate 3 exact rfl) | (apply q_g; (iterate 3 exact rfl); exact (by assumption)))
    | (show SQ _ _ _ _ _ _ _ _; (first | (apply q_callC; (iterate 3 exact rfl); exact hR; (focus ((repeat (first | exact trivial | refine ⟨by first | exact rfl | assumption, ?_⟩)); done)); skip) | (apply q_callC; (iterate 3 exact rfl); exact hA; (focus ((repeat (first | exact trivial | refine ⟨by first | exact rfl | assumption, ?_⟩)); done)); skip)); (try simp only [put, rowsOf, plR, selE, ovr, setH, del, cellsA, splice, isV, spq, if_true, if_false]))
    | (show AW _ _ _ _ _ _ _ _; first | refine aw_region ?_ | (refine aw_seqk ?_; intro K hK) | (apply aw_cond_t; exact rfl; exact (by assumption)) | (apply aw_cond_f; exact rfl; exact (by assumption)) | refine aw_exit ?_ | refine aw_skip ?_)
    | refine thn_n ?_
    | (refine hK _ _ _ ?_; clear hK K)
    | refine thn_e ?_
    | refine inb_same ?_
    | (clear hK K; refine hK _ _ _ ?_; clear hK K))); all_goals (repeat (clear hK K)))
                    all_goals exact finc_n (fun z => z) .r0 (by simp only [renA, renL]) (fun _ _ => rfl) ⟨rfl, trivial⟩ rfl
                · have f2 : decide ((d : Int) < (e : Int)) = false := by simpa using x2
                  rw [← hwe] at f2
                  have hXl := hX.length_eq
                  rw [if_pos (by simp; omega)] at hXd
                  have hR := rotate_rc n ls xs i m e hx (by omega) (by omega) (by omega) 0 1
                  rw [← hXd] at hR
                  have hvX := hv.perm hX
                  have hA := hI X a i d (by omega) hvX (by omega) (by omega) (by omega) (by omega) 0 1
                  have hAp := symF_perm (lt := ltO ls) (f := f) (a := a) (m := i) (b := d) (xs := X) (by omega) (by omega) (by omega)
                  have hAl := hAp.length_eq
                  have hvA := hvX.perm hAp
                  have hi2 : (decide (a < i) && decide (i < d)) = true := by simp; omega
                  rw [if_pos hi2] at hQ
                  generalize hY : symF (ltO ls) f a i d X = Y at *
                  have hi3 : ¬ (decide (d < e) && decide (e < b)) = true := by simp; omega
                  rw [if_neg hi3] at hQ
                  rw [← hwe] at hR
                  rw [hXl] at hA
                  subst hQ
                  ((repeat' (first
    | (show SQ _ _ _ _ _ _ _ _; first | apply sq_nil | (apply q_move; exact rfl; exact rfl) | (apply q_assign; exact rfl; exact rfl) | (apply q_pick_t; (iterate 3 exact rfl); exact (by first | assumption | exact rfl)) | (apply q_pick_f; (iterate 3 exact rfl); exact (by first | assumption | exact rfl)) | (apply q_sub; iterate 3 exact rfl) | (apply q_lss; iterate 3 exact rfl) | (apply q_g; (iterate 3 exact rfl); exact (by assumption)) | (apply q_s; (iterate 3 exact rfl); exact (by assumption); exact rfl))
    | (show SQ _ _ _ _ _ _ _ _; (first | (apply q_callC; (iterate 3 exact rfl); exact hR; (focus ((repeat (first | exact trivial | refine ⟨by first | exact rfl | assumption, ?_⟩)); done)); skip) | (apply q_callC; (iterate 3 exact rfl); exact hA; (focus ((repeat (first | exact trivial | refine ⟨by first | exact rfl | assumption, ?_⟩)); done)); skip)); (try simp only [put, rowsOf, plR, selE, ovr, setH, del, cellsA, splice, isV, spq, if_true, if_false]))
    | (show AW _ _ _ _ _ _ _ _; first | refine aw_region ?_ | (refine aw_seqk ?_; intro K hK) | (apply aw_cond_f; exact rfl; exact rfl) | (apply aw_cond_t; exact rfl; exact (by assumption)) | (apply aw_cond_f; exact rfl; exact (by assumption)) | refine aw_exit ?_ | refine aw_skip ?_)
    | refine thn_n ?_
    | (refine hK _ _ _ ?_; clear hK K)
    | refine thn_e ?_
    | refine inb_same ?_
    | (clear hK K; refine hK _ _ _ ?_; clear hK K))); all_goals (repeat (clear hK K)))
                  all_goals exact finc_n (fun z => z) .r0 (by simp only [renA, renL]) (fun _ _ => rfl) ⟨rfl, trivial⟩ rfl
              · have g1 : decide ((i : Int) < (d : Int)) = false := by simpa using y1
                by_cases x2 : d < e
                · have f2 : decide ((d : Int) < (e : Int)) = true := by simpa using x2
                  rw [← hwe] at f2
                  by_cases y2 : e < b
                  · have g2 : decide ((e : Int) < (b : Int)) = true := by simpa using y2
                    rw [← hwe] at g2
                    have hXl := hX.length_eq
                    rw [if_pos (by simp; omega)] at hXd
                    have hR := rotate_rc n ls xs i m e hx (by omega) (by omega) (by omega) 0 1
                    rw [← hXd] at hR
                    have hvX := hv.perm hX
                    have hi2 : ¬ (decide (a < i) && decide (i < d)) = true := by simp; omega
                    rw [if_neg hi2] at hQ
                    have hB := hI X d e b (by omega) hvX (by omega) (by omega) (by omega) (by omega) 0 1
                    have hi3 : (decide (d < e) && decide (e < b)) = true := by simp; omega
                    rw [if_pos hi3] at hQ
                    rw [← hwe] at hR
                    rw [hXl, hQ, ← hwe] at hB
                    ((repeat' (first
    | (show SQ _ _ _ _ _ _ _ _; first | apply sq_nil | (apply q_move; exact rfl; exact rfl) | (apply q_assign; exact rfl; exact rfl) | (apply q_pick_t; (iterate 3 exact rfl); exact (by first | assumption | exact rfl)) | (apply q_sub; iterate 3 exact rfl) | (apply q_lss; iterate 3 exact rfl) | (apply q_g; (iterate 3 exact rfl); exact (by assumption)))
    | (show SQ _ _ _ _ _ _ _ _; (first | (apply q_callC; (iterate 3 exact rfl); exact hR; (focus ((repeat (first | exact trivial | refine ⟨by first | exact rfl | assumption, ?_⟩)); done)); skip) | (apply q_callC; (iterate 3 exact rfl); exact hB; (focus ((repeat (first | exact trivial | refine ⟨by first | exact rfl | assumption, ?_⟩)); done)); skip)); (try simp only [put, rowsOf, plR, selE, ovr, setH, del, cellsA, splice, isV, spq, if_true, if_false]))
    | (show AW _ _ _ _ _ _ _ _; first | refine aw_region ?_ | (refine aw_seqk ?_; intro K hK) | (apply aw_cond_t; exact rfl; exact (by assumption)) | (apply aw_cond_f; exact rfl; exact (by assumption)) | refine aw_exit ?_ | refine aw_skip ?_)
    | refine thn_n ?_
    | (refine hK _ _ _ ?_; clear hK K)
    | refine thn_e ?_
    | refine inb_same ?_
    | (clear hK K; refine hK _ _ _ ?_; clear hK K))); all_goals (repeat (clear hK K)))
                    all_goals exact finc_n (fun z => z) .r0 (by simp only [renA, renL]) (fun _ _ => rfl) ⟨rfl, trivial⟩ rfl
                  · have g2 : decide ((e : Int) < (b : Int)) = false := by simpa using y2
                    rw [← hwe] at g2
                    have hXl := hX.length_eq
                    rw [if_pos (by simp; omega)] at hXd
                    have hR := rotate_rc n ls xs i m e hx (by omega) (by omega) (by omega) 0 1
                    rw [← hXd] at hR
                    have hvX := hv.perm hX
                    have hi2 : ¬ (decide (a < i) && decide (i < d)) = true := by simp; omega
                    rw [if_neg hi2] at hQ
                    have hi3 : ¬ (decide (d < e) && decide (e < b)) = true := by simp; omega
                    rw [if_neg hi3] at hQ
                    rw [← hwe] at hR
                    subst hQ
                    ((repeat' (first
    | (show SQ _ _ _ _ _ _ _ _; first | apply sq_nil | (apply q_move; exact rfl; exact rfl) | (apply q_assign; exact rfl; exact rfl) | (apply q_pick_t; (iterate 3 exact rfl); exact (by first | assumption | exact rfl)) | (apply q_sub; iterate 3 exact rfl) | (apply q_lss; iterate 3 exact rfl) | (apply q_g; (iterate 3 exact rfl); exact (by assumption)))
    | (show SQ _ _ _ _ _ _ _ _; (first | (apply q_callC; (iterate 3 exact rfl); exact hR; (focus ((repeat (first | exact trivial | refine ⟨by first | exact rfl | assumption, ?_⟩)); done)); skip)); (try simp only [put, rowsOf, plR, selE, ovr, setH, del, cellsA, splice, isV, spq, if_true, if_false]))
    | (show AW _ _ _ _ _ _ _ _; first | refine aw_region ?_ | (refine aw_seqk ?_; intro K hK) | (apply aw_cond_t; exact rfl; exact (by assumption)) | (apply aw_cond_f; exact rfl; exact (by assumption)) | refine aw_exit ?_ | refine aw_skip ?_)
    | refine thn_n ?_
    | (refine hK _ _ _ ?_; clear hK K)
    | refine thn_e ?_
    | refine inb_same ?_
    | (clear hK K; refine hK _ _ _ ?_; clear hK K))); all_goals (repeat (clear hK K)))
                    all_goals exact finc_n (fun z => z) .r0 (by simp only [renA, renL]) (fun _ _ => rfl) ⟨rfl, trivial⟩ rfl
                · have f2 : decide ((d : Int) < (e : Int)) = false := by simpa using x2
                  rw [← hwe] at f2
                  have hXl := hX.length_eq
                  rw [if_pos (by simp; omega)] at hXd
                  have hR := rotate_rc n ls xs i m e hx (by omega) (by omega) (by omega) 0 1
                  rw [← hXd] at hR
                  have hvX := hv.perm hX
                  have hi2 : ¬ (decide (a < i) && decide (i < d)) = true := by simp; omega
                  rw [if_neg hi2] at hQ
                  have hi3 : ¬ (decide (d < e) && decide (e < b)) = true := by simp; omega
                  rw [if_neg hi3] at hQ
                  rw [← hwe] at hR
                  subst hQ
                  ((repeat' (first
    | (show SQ _ _ _ _ _ _ _ _; first | apply sq_nil | (apply q_move; exact rfl; exact rfl) | (apply q_assign; exact rfl; exact rfl) | (apply q_pick_t; (iterate 3 exact rfl); exact (by first | assumption | exact rfl)) | (apply q_pick_f; (iterate 3 exact rfl); exact (by first | assumption | exact rfl)) | (apply q_sub; iterate 3 exact rfl) | (apply q_lss; iterate 3 exact rfl) | (apply q_g; (iterate 3 exact rfl); exact (by assumption)) | (apply q_s; (iterate 3 exact rfl); exact (by assumption); exact rfl))
    | (show SQ _ _ _ _ _ _ _ _; (first | (apply q_callC; (iterate 3 exact rfl); exact hR; (focus ((repeat (first | exact trivial | refine ⟨by first | exact rfl | assumption, ?_⟩)); done)); skip)); (try simp only [put, rowsOf, plR, selE, ovr, setH, del, cellsA, splice, isV, spq, if_true, if_false]))
    | (show AW _ _ _ _ _ _ _ _; first | refine aw_region ?_ | (refine aw_seqk ?_; intro K hK) | (apply aw_cond_f; exact rfl; exact rfl) | (apply aw_cond_t; exact rfl; exact (by assumption)) | (apply aw_cond_f; exact rfl; exact (by assumption)) | refine aw_exit ?_ | refine aw_skip ?_)
    | refine thn_n ?_
    | (refine hK _ _ _ ?_; clear hK K)
    | refine thn_e ?_
    | refine inb_same ?_
    | (clear hK K; refine hK _ _ _ ?_; clear hK K))); all_goals (repeat (clear hK K)))
                  all_goals exact finc_n (fun z => z) .r0 (by simp only [renA, renL]) (fun _ _ => rfl) ⟨rfl, trivial⟩ rfl
            · have f1 : decide ((a : Int) < (i : Int)) = false := by simpa using x1
              by_cases x2 : d < e
              · have f2 : decide ((d : Int) < (e : Int)) = true := by simpa using x2
                rw [← hwe] at f2
                by_cases y2 : e < b
                · have g2 : decide ((e : Int) < (b : Int)) = true := by simpa using y2
                  rw [← hwe] at g2
                  have hXl := hX.length_eq
                  rw [if_pos (by simp; omega)] at hXd
                  have hR := rotate_rc n ls xs i m e hx (by omega) (by omega) (by omega) 0 1
                  rw [← hXd] at hR
                  have hvX := hv.perm hX
                  have hi2 : ¬ (decide (a < i) && decide (i < d)) = true := by simp; omega
                  rw [if_neg hi2] at hQ
                  have hB := hI X d e b (by omega) hvX (by omega) (by omega) (by omega) (by omega) 0 1
                  have hi3 : (decide (d < e) && decide (e < b)) = true := by simp; omega
                  rw [if_pos hi3] at hQ
                  rw [← hwe] at hR
                  rw [hXl, hQ, ← hwe] at hB
                  ((repeat' (first
    | (show SQ _ _ _ _ _ _ _ _; first | apply sq_nil | (apply q_move; exact rfl; exact rfl) | (apply q_assign; exact rfl; exact rfl) | (apply q_pick_t; (iterate 3 exact rfl); exact (by first | assumption | exact rfl)) | (apply q_pick_f; (iterate 3 exact rfl); exact (by first | assumption | exact rfl)) | (apply q_sub; iterate 3 exact rfl) | (apply q_lss; iterate 3 exact rfl) | (apply q_g; (iterate 3 exact rfl); exact (by assumption)) | (apply q_s; (iterate 3 exact rfl); exact (by assumption); exact rfl))
    | (show SQ _ _ _ _ _ _ _ _; (first | (apply q_callC; (iterate 3 exact rfl); exact hR; (focus ((repeat (first | exact trivial | refine ⟨by first | exact rfl | assumption, ?_⟩)); done)); skip) | (apply q_callC; (iterate 3 exact rfl); exact hB; (focus ((repeat (first | exact trivial | refine ⟨by first | exact rfl | assumption, ?_⟩)); done)); skip)); (try simp only [put, rowsOf, plR, selE, ovr, setH, del, cellsA, splice, isV, spq, if_true, if_false]))
    | (show AW _ _ _ _ _ _ _ _; first | refine aw_region ?_ | (refine aw_seqk ?_; intro K hK) | (apply aw_cond_f; exact rfl; exact rfl) | (apply aw_cond_t; exact rfl; exact (by assumption)) | (apply aw_cond_f; exact rfl; exact (by assumption)) | refine aw_exit ?_ | refine aw_skip ?_)
    | refine thn_n ?_
    | (refine hK _ _ _ ?_; clear hK K)
    | refine thn_e ?_
    | refine inb_same ?_
    | (clear hK K; refine hK _ _ _ ?_; clear hK K))); all_goals (repeat (clear hK K)))
                  all_goals exact finc_n (fun z => z) .r0 (by simp only [renA, renL]) (fun _ _ => rfl) ⟨rfl, trivial⟩ rfl
                · have g2 : decide ((e : Int) < (b : Int)) = false := by simpa using y2
                  rw [← hwe] at g2
                  have hXl := hX.length_eq
                  rw [if_pos (by simp; omega)] at hXd
                  have hR := rotate_rc n ls xs i m e hx (by omega) (by omega) (by omega) 0 1
                  rw [← hXd] at hR
                  have hvX := hv.perm hX
                  have hi2 : ¬ (decide (a < i) && decide (i < d)) = true := by simp; omega
                  rw [if_neg hi2] at hQ
                  have hi3 : ¬ (decide (d < e) && decide (e < b)) = true := by simp; omega
                  rw [if_neg hi3] at hQ
                  rw [← hwe] at hR
                  subst hQ
                  ((repeat' (first
    | (show SQ _ _ _ _ _ _ _ _; first | apply sq_nil | (apply q_move; exact rfl; exact rfl) | (apply q_assign; exact rfl; exact rfl) | (apply q_pick_t; (iterate 3 exact rfl); exact (by first | assumption | exact rfl)) | (apply q_pick_f; (iterate 3 exact rfl); exact (by first | assumption | exact rfl)) | (apply q_sub; iterate 3 exact rfl) | (apply q_lss; iterate 3 exact rfl) | (apply q_g; (iterate 3 exact rfl); exact (by assumption)) | (apply q_s; (iterate 3 exact rfl); exact (by assumption); exact rfl))
    | (show SQ _ _ _ _ _ _ _ _; (first | (apply q_callC; (iterate 3 exact rfl); exact hR; (focus ((repeat (first | exact trivial | refine ⟨by first | exact rfl | assumption, ?_⟩)); done)); skip)); (try simp only [put, rowsOf, plR, selE, ovr, setH, del, cellsA, splice, isV, spq, if_true, if_false]))
    | (show AW _ _ _ _ _ _ _ _; first | refine aw_region ?_ | (refine aw_seqk ?_; intro K hK) | (apply aw_cond_f; exact rfl; exact rfl) | (apply aw_cond_t; exact rfl; exact (by assumption)) | (apply aw_cond_f; exact rfl; exact (by assumption)) | refine aw_exit ?_ | refine aw_skip ?_)
    | refine thn_n ?_
    | (refine hK _ _ _ ?_; clear hK K)
    | refine thn_e ?_
    | refine inb_same ?_
    | (clear hK K; refine hK _ _ _ ?_; clear hK K))); all_goals (repeat (clear hK K)))
                  all_goals exact finc_n (fun z => z) .r0 (by simp only [renA, renL]) (fun _ _ => rfl) ⟨rfl, trivial⟩ rfl
              · have f2 : decide ((d : Int) < (e : Int)) = false := by simpa using x2
                rw [← hwe] at f2
                have hXl := hX.length_eq
                rw [if_pos (by simp; omega)] at hXd
                have hR := rotate_rc n ls xs i m e hx (by omega) (by omega) (by omega) 0 1
                rw [← hXd] at hR
                have hvX := hv.perm hX
                have hi2 : ¬ (decide (a < i) && decide (i < d)) = true := by simp; omega
                rw [if_neg hi2] at hQ
                have hi3 : ¬ (decide (d < e) && decide (e < b)) = true := by simp; omega
                rw [if_neg hi3] at hQ
                rw [← hwe] at hR
                subst hQ
                ((repeat' (first
    | (show SQ _ _ _ _ _ _ _ _; first | apply sq_nil | (apply q_move; exact rfl; exact rfl) | (apply q_assign; exact rfl; exact rfl) | (apply q_pick_t; (iterate 3 exact rfl); exact (by first | assumption | exact rfl)) | (apply q_pick_f; (iterate 3 exact rfl); exact (by first | assumption | exact rfl)) | (apply q_sub; iterate 3 exact rfl) | (apply q_lss; iterate 3 exact rfl) | (apply q_g; (iterate 3 exact rfl); exact (by assumption)) | (apply q_s; (iterate 3 exact rfl); exact (by assumption); exact rfl))
    | (show SQ _ _ _ _ _ _ _ _; (first | (apply q_callC; (iterate 3 exact rfl); exact hR; (focus ((repeat (first | exact trivial | refine ⟨by first | exact rfl | assumption, ?_⟩)); done)); skip)); (try simp only [put, rowsOf, plR, selE, ovr, setH, del, cellsA, splice, isV, spq, if_true, if_false]))
    | (show AW _ _ _ _ _ _ _ _; first | refine aw_region ?_ | (refine aw_seqk ?_; intro K hK) | (apply aw_cond_f; exact rfl; exact rfl) | (apply aw_cond_t; exact rfl; exact (by assumption)) | (apply aw_cond_f; exact rfl; exact (by assumption)) | refine aw_exit ?_ | refine aw_skip ?_)
    | refine thn_n ?_
    | (refine hK _ _ _ ?_; clear hK K)
    | refine thn_e ?_
    | refine inb_same ?_
    | (clear hK K; refine hK _ _ _ ?_; clear hK K))); all_goals (repeat (clear hK K)))
                all_goals exact finc_n (fun z => z) .r0 (by simp only [renA, renL]) (fun _ _ => rfl) ⟨rfl, trivial⟩ rfl
          · have g0 : decide ((m : Int) < (e : Int)) = false := by simpa using y0
            rw [← hwe] at g0
            by_cases x1 : a < i
            · have f1 : decide ((a : Int) < (i : Int)) = true := by simpa using x1
              by_cases y1 : i < d
              · have g1 : decide ((i : Int) < (d : Int)) = true := by simpa using y1
                by_cases x2 : d < e
                · have f2 : decide ((d : Int) < (e : Int)) = true := by simpa using x2
                  rw [← hwe] at f2
                  by_cases y2 : e < b
                  · have g2 : decide ((e : Int) < (b : Int)) = true := by simpa using y2
                    rw [← hwe] at g2
                    have hXl := hX.length_eq
                    rw [if_neg (by simp; omega)] at hXd
                    subst hXd
                    have hvX := hv.perm hX
                    have hA := hI X a i d (by omega) hvX (by omega) (by omega) (by omega) (by omega) 0 1
                    have hAp := symF_perm (lt := ltO ls) (f := f) (a := a) (m := i) (b := d) (xs := X) (by omega) (by omega) (by omega)
                    have hAl := hAp.length_eq
                    have hvA := hvX.perm hAp
                    have hi2 : (decide (a < i) && decide (i < d)) = true := by simp; omega
                    rw [if_pos hi2] at hQ
                    generalize hY : symF (ltO ls) f a i d X = Y at *
                    have hB := hI Y d e b (by omega) hvA (by omega) (by omega) (by omega) (by omega) 0 1
                    have hi3 : (decide (d < e) && decide (e < b)) = true := by simp; omega
                    rw [if_pos hi3] at hQ
                    rw [hXl] at hA
                    rw [hAl, hXl, hQ, ← hwe] at hB
                    ((repeat' (first
    | (show SQ _ _ _ _ _ _ _ _; first | apply sq_nil | (apply q_move; exact rfl; exact rfl) | (apply q_assign; exact rfl; exact rfl) | (apply q_pick_t; (iterate 3 exact rfl); exact (by first | assumption | exact rfl)) | (apply q_sub; iterate 3 exact rfl) | (apply q_lss; iterate 3 exact rfl) | (apply q_g; (iterate 3 exact rfl); exact (by assumption)))
    | (show SQ _ _ _ _ _ _ _ _; (first | (apply q_callC; (iterate 3 exact rfl); exact hA; (focus ((repeat (first | exact trivial | refine ⟨by first | exact rfl | assumption, ?_⟩)); done)); skip) | (apply q_callC; (iterate 3 exact rfl); exact hB; (focus ((repeat (first | exact trivial | refine ⟨by first | exact rfl | assumption, ?_⟩)); done)); skip)); (try simp only [put, rowsOf, plR, selE, ovr, setH, del, cellsA, splice, isV, spq, if_true, if_false]))
    | (show AW _ _ _ _ _ _ _ _; first | refine aw_region ?_ | (refine aw_seqk ?_; intro K hK) | (apply aw_cond_t; exact rfl; exact (by assumption)) | (apply aw_cond_f; exact rfl; exact (by assumption)) | refine aw_exit ?_ | refine aw_skip ?_)
    | refine thn_n ?_
    | (refine hK _ _ _ ?_; clear hK K)
    | refine thn_e ?_
    | refine inb_same ?_
    | (clear hK K; refine hK _ _ _ ?_; clear hK K))); all_goals (repeat (clear hK K)))
                    all_goals exact finc_n (fun z => z) .r0 (by simp only [renA, renL]) (fun _ _ => rfl) ⟨rfl, trivial⟩ rfl
                  · have g2 : decide ((e : Int) < (b : Int)) = false := by simpa using y2
                    rw [← hwe] at g2
                    have hXl := hX.length_eq
                    rw [if_neg (by simp; omega)] at hXd
                    subst hXd
                    have hvX := hv.perm hX
                    have hA := hI X a i d (by omega) hvX (by omega) (by omega) (by omega) (by omega) 0 1
                    have hAp := symF_perm (lt := ltO ls) (f := f) (a := a) (m := i) (b := d) (xs := X) (by omega) (by omega) (by omega)
                    have hAl := hAp.length_eq
                    have hvA := hvX.perm hAp
                    have hi2 : (decide (a < i) && decide (i < d)) = true := by simp; omega
                    rw [if_pos hi2] at hQ
                    generalize hY : symF (ltO ls) f a i d X = Y at *
                    have hi3 : ¬ (decide (d < e) && decide (e < b)) = true := by simp; omega
                    rw [if_neg hi3] at hQ
                    rw [hXl] at hA
                    subst hQ
                    ((repeat' (first
    | (show SQ _ _ _ _ _ _ _ _; first | apply sq_nil | (apply q_move; exact rfl; exact rfl) | (apply q_assign; exact rfl; exact rfl) | (apply q_pick_t; (iterate 3 exact rfl); exact (by first | assumption | exact rfl)) | (apply q_sub; iterate 3 exact rfl) | (apply q_lss; iterate 3 exact rfl) | (apply q_g; (iterate 3 exact rfl); exact (by assumption)))
    | (show SQ _ _ _ _ _ _ _ _; (first | (apply q_callC; (iterate 3 exact rfl); exact hA; (focus ((repeat (first | exact trivial | refine ⟨by first | exact rfl | assumption, ?_⟩)); done)); skip)); (try simp only [put, rowsOf, plR, selE, ovr, setH, del, cellsA, splice, isV, spq, if_true, if_false]))
    | (show AW _ _ _ _ _ _ _ _; first | refine aw_region ?_ | (refine aw_seqk ?_; intro K hK) | (apply aw_cond_t; exact rfl; exact (by assumption)) | (apply aw_cond_f; exact rfl; exact (by assumption)) | refine aw_exit ?_ | refine aw_skip ?_)
    | refine thn_n ?_
    | (refine hK _ _ _ ?_; clear hK K)
    | refine thn_e ?_
    | refine inb_same ?_
    | (clear hK K; refine hK _ _ _ ?_; clear hK K))); all_goals (repeat (clear hK K)))
                    all_goals exact finc_n (fun z => z) .r0 (by simp only [renA, renL]) (fun _ _ => rfl) ⟨rfl, trivial⟩ rfl
                · have f2 : decide ((d : Int) < (e : Int)) = false := by simpa using x2
                  rw [← hwe] at f2
                  have hXl := hX.length_eq
                  rw [if_neg (by simp; omega)] at hXd
                  subst hXd
                  have hvX := hv.perm hX
                  have hA := hI X a i d (by omega) hvX (by omega) (by omega) (by omega) (by omega) 0 1
                  have hAp := symF_perm (lt := ltO ls) (f := f) (a := a) (m := i) (b := d) (xs := X) (by omega) (by omega) (by omega)
                  have hAl := hAp.length_eq
                  have hvA := hvX.perm hAp
                  have hi2 : (decide (a < i) && decide (i < d)) = true := by simp; omega
                  rw [if_pos hi2] at hQ
                  generalize hY : symF (ltO ls) f a i d X = Y at *
                  have hi3 : ¬ (decide (d < e) && decide (e < b)) = true := by simp; omega
                  rw [if_neg hi3] at hQ
                  rw [hXl] at hA
                  subst hQ
                  ((repeat' (first
    | (show SQ _ _ _ _ _ _ _ _; first | apply sq_nil | (apply q_move; exact rfl; exact rfl) | (apply q_assign; exact rfl; exact rfl) | (apply q_pick_t; (iterate 3 exact rfl); exact (by first | assumption | exact rfl)) | (apply q_pick_f; (iterate 3 exact rfl); exact (by first | assumption | exact rfl)) | (apply q_sub; iterate 3 exact rfl) | (apply q_lss; iterate 3 exact rfl) | (apply q_g; (iterate 3 exact rfl); exact (by assumption)) | (apply q_s; (iterate 3 exact rfl); exact (by assumption); exact rfl))
    | (show SQ _ _ _ _ _ _ _ _; (first | (apply q_callC; (iterate 3 exact rfl); exact hA; (focus ((repeat (first | exact trivial | refine ⟨by first | exact rfl | assumption, ?_⟩)); done)); skip)); (try simp only [put, rowsOf, plR, selE, ovr, setH, del, cellsA, splice, isV, spq, if_true, if_false]))
    | (show AW _ _ _ _ _ _ _ _; first | refine aw_region ?_ | (refine aw_seqk ?_; intro K hK) | (apply aw_cond_f; exact rfl; exact rfl) | (apply aw_cond_t; exact rfl; exact (by assumption)) | (apply aw_cond_f; exact rfl; exact (by assumption)) | refine aw_exit ?_ | refine aw_skip ?_)
    | refine thn_n ?_
    | (refine hK _ _ _ ?_; clear hK K)
    | refine thn_e ?_
    | refine inb_same ?_
    | (clear hK K; refine hK _ _ _ ?_; clear hK K))); all_goals (repeat (clear hK K)))
                  all_goals exact finc_n (fun z => z) .r0 (by simp only [renA, renL]) (fun _ _ => rfl) ⟨rfl, trivial⟩ rfl
              · have g1 : decide ((i : Int) < (d : Int)) = false := by simpa using y1
                by_cases x2 : d < e
                · have f2 : decide ((d : Int) < (e : Int)) = true := by simpa using x2
                  rw [← hwe] at f2
                  by_cases y2 : e < b
                  · have g2 : decide ((e : Int) < (b : Int)) = true := by simpa using y2
                    rw [← hwe] at g2
                    have hXl := hX.length_eq
                    rw [if_neg (by simp; omega)] at hXd
                    subst hXd
                    have hvX := hv.perm hX
                    have hi2 : ¬ (decide (a < i) && decide (i < d)) = true := by simp; omega
                    rw [if_neg hi2] at hQ
                    have hB := hI X d e b (by omega) hvX (by omega) (by omega) (by omega) (by omega) 0 1
                    have hi3 : (decide (d < e) && decide (e < b)) = true := by simp; omega
                    rw [if_pos hi3] at hQ
                    rw [hXl, hQ, ← hwe] at hB
                    ((repeat' (first
    | (show SQ _ _ _ _ _ _ _ _; first | apply sq_nil | (apply q_move; exact rfl; exact rfl) | (apply q_assign; exact rfl; exact rfl) | (apply q_pick_t; (iterate 3 exact rfl); exact (by first | assumption | exact rfl)) | (apply q_sub; iterate 3 exact rfl) | (apply q_lss; iterate 3 exact rfl) | (apply q_g; (iterate 3 exact rfl); exact (by assumption)))
    | (show SQ _ _ _ _ _ _ _ _; (first | (apply q_callC; (iterate 3 exact rfl); exact hB; (focus ((repeat (first | exact trivial | refine ⟨by first | exact rfl | assumption, ?_⟩)); done)); skip)); (try simp only [put, rowsOf, plR, selE, ovr, setH, del, cellsA, splice, isV, spq, if_true, if_false]))
    | (show AW _ _ _ _ _ _ _ _; first | refine aw_region ?_ | (refine aw_seqk ?_; intro K hK) | (apply aw_cond_t; exact rfl; exact (by assumption)) | (apply aw_cond_f; exact rfl; exact (by assumption)) | refine aw_exit ?_ | refine aw_skip ?_)
    | refine thn_n ?_
    | (refine hK _ _ _ ?_; clear hK K)
    | refine thn_e ?_
    | refine inb_same ?_
    | (clear hK K; refine hK _ _ _ ?_; clear hK K))); all_goals (repeat (clear hK K)))
                    all_goals exact finc_n (fun z => z) .r0 (by simp only [renA, renL]) (fun _ _ => rfl) ⟨rfl, trivial⟩ rfl
                  · have g2 : decide ((e : Int) < (b : Int)) = false := by simpa using y2
                    rw [← hwe] at g2
                    have hXl := hX.length_eq
                    rw [if_neg (by simp; omega)] at hXd
                    subst hXd
                    have hvX := hv.perm hX
                    have hi2 : ¬ (decide (a < i) && decide (i < d)) = true := by simp; omega
                    rw [if_neg hi2] at hQ
                    have hi3 : ¬ (decide (d < e) && decide (e < b)) = true := by simp; omega
                    rw [if_neg hi3] at hQ
                    subst hQ
                    ((repeat' (first
    | (show SQ _ _ _ _ _ _ _ _; first | apply sq_nil | (apply q_move; exact rfl; exact rfl) | (apply q_assign; exact rfl; exact rfl) | (apply q_pick_t; (iterate 3 exact rfl); exact (by first | assumption | exact rfl)) | (apply q_sub; iterate 3 exact rfl) | (apply q_lss; iterate 3 exact rfl) | (apply q_g; (iterate 3 exact rfl); exact (by assumption)))
    | (show AW _ _ _ _ _ _ _ _; first | refine aw_region ?_ | (refine aw_seqk ?_; intro K hK) | (apply aw_cond_f; exact rfl; exact (by assumption)) | refine aw_exit ?_ | refine aw_skip ?_)
    | refine thn_n ?_
    | (refine hK _ _ _ ?_; clear hK K)
    | refine thn_e ?_
    | refine inb_same ?_
    | (clear hK K; refine hK _ _ _ ?_; clear hK K))); all_goals (repeat (clear hK K)))
                    all_goals exact finc_n (fun z => z) .r0 (by simp only [renA, renL]) (fun _ _ => rfl) ⟨rfl, trivial⟩ rfl
                · have f2 : decide ((d : Int) < (e : Int)) = false := by simpa using x2
                  rw [← hwe] at f2
                  have hXl := hX.length_eq
                  rw [if_neg (by simp; omega)] at hXd
                  subst hXd
                  have hvX := hv.perm hX
                  have hi2 : ¬ (decide (a < i) && decide (i < d)) = true := by simp; omega
                  rw [if_neg hi2] at hQ
                  have hi3 : ¬ (decide (d < e) && decide (e < b)) = true := by simp; omega
                  rw [if_neg hi3] at hQ
                  subst hQ
                  ((repeat' (first
    | (show SQ _ _ _ _ _ _ _ _; first | apply sq_nil | (apply q_move; exact rfl; exact rfl) | (apply q_assign; exact rfl; exact rfl) | (apply q_pick_t; (iterate 3 exact rfl); exact (by first | assumption | exact rfl)) | (apply q_pick_f; (iterate 3 exact rfl); exact (by first | assumption | exact rfl)) | (apply q_sub; iterate 3 exact rfl) | (apply q_lss; iterate 3 exact rfl) | (apply q_g; (iterate 3 exact rfl); exact (by assumption)) | (apply q_s; (iterate 3 exact rfl); exact (by assumption); exact rfl))
    | (show AW _ _ _ _ _ _ _ _; first | refine aw_region ?_ | (refine aw_seqk ?_; intro K hK) | (apply aw_cond_f; exact rfl; exact rfl) | (apply aw_cond_f; exact rfl; exact (by assumption)) | refine aw_exit ?_ | refine aw_skip ?_)
    | refine thn_n ?_
    | (refine hK _ _ _ ?_; clear hK K)
    | refine thn_e ?_
    | refine inb_same ?_
    | (clear hK K; refine hK _ _ _ ?_; clear hK K))); all_goals (repeat (clear hK K)))
                  all_goals exact finc_n (fun z => z) .r0 (by simp only [renA, renL]) (fun _ _ => rfl) ⟨rfl, trivial⟩ rfl
            · have f1 : decide ((a : Int) < (i : Int)) = false := by simpa using x1
              by_cases x2 : d < e
              · have f2 : decide ((d : Int) < (e : Int)) = true := by simpa using x2
                rw [← hwe] at f2
                by_cases y2 : e < b
                · have g2 : decide ((e : Int) < (b : Int)) = true := by simpa using y2
                  rw [← hwe] at g2
                  have hXl := hX.length_eq
                  rw [if_neg (by simp; omega)] at hXd
                  subst hXd
                  have hvX := hv.perm hX
                  have hi2 : ¬ (decide (a < i) && decide (i < d)) = true := by simp; omega
                  rw [if_neg hi2] at hQ
                  have hB := hI X d e b (by omega) hvX (by omega) (by omega) (by omega) (by omega) 0 1
                  have hi3 : (decide (d < e) && decide (e < b)) = true := by simp; omega
                  rw [if_pos hi3] at hQ
                  rw [hXl, hQ, ← hwe] at hB
                  ((repeat' (first
    | (show SQ _ _ _ _ _ _ _ _; first | apply sq_nil | (apply q_move; exact rfl; exact rfl) | (apply q_assign; exact rfl; exact rfl) | (apply q_pick_t; (iterate 3 exact rfl); exact (by first | assumption | exact rfl)) | (apply q_pick_f; (iterate 3 exact rfl); exact (by first | assumption | exact rfl)) | (apply q_sub; iterate 3 exact rfl) | (apply q_lss; iterate 3 exact rfl) | (apply q_g; (iterate 3 exact rfl); exact (by assumption)) | (apply q_s; (iterate 3 exact rfl); exact (by assumption); exact rfl))
    | (show SQ _ _ _ _ _ _ _ _; (first | (apply q_callC; (iterate 3 exact rfl); exact hB; (focus ((repeat (first | exact trivial | refine ⟨by first | exact rfl | assumption, ?_⟩)); done)); skip)); (try simp only [put, rowsOf, plR, selE, ovr, setH, del, cellsA, splice, isV, spq, if_true, if_false]))
    | (show AW _ _ _ _ _ _ _ _; first | refine aw_region ?_ | (refine aw_seqk ?_; intro K hK) | (apply aw_cond_f; exact rfl; exact rfl) | (apply aw_cond_t; exact rfl; exact (by assumption)) | (apply aw_cond_f; exact rfl; exact (by assumption)) | refine aw_exit ?_ | refine aw_skip ?_)
    | refine thn_n ?_
    | (refine hK _ _ _ ?_; clear hK K)
    | refine thn_e ?_
    | refine inb_same ?_
    | (clear hK K; refine hK _ _ _ ?_; clear hK K))); all_goals (repeat (clear hK K)))
                  all_goals exact finc_n (fun z => z) .r0 (by simp only [renA, renL]) (fun _ _ => rfl) ⟨rfl, trivial⟩ rfl
                · have g2 : decide ((e : Int) < (b : Int)) = false := by simpa using y2
                  rw [← hwe] at g2
                  have hXl := hX.length_eq
                  rw [if_neg (by simp; omega)] at hXd
                  subst hXd
                  have hvX := hv.perm hX
                  have hi2 : ¬ (decide (a < i) && decide (i < d)) = true := by simp; omega
                  rw [if_neg hi2] at hQ
                  have hi3 : ¬ (decide (d < e) && decide (e < b)) = true := by simp; omega
                  rw [if_neg hi3] at hQ
                  subst hQ
                  ((repeat' (first
    | (show SQ _ _ _ _ _ _ _ _; first | apply sq_nil | (apply q_move; exact rfl; exact rfl) | (apply q_assign; exact rfl; exact rfl) | (apply q_pick_t; (iterate 3 exact rfl); exact (by first | assumption | exact rfl)) | (apply q_pick_f; (iterate 3 exact rfl); exact (by first | assumption | exact rfl)) | (apply q_sub; iterate 3 exact rfl) | (apply q_lss; iterate 3 exact rfl) | (apply q_g; (iterate 3 exact rfl); exact (by assumption)) | (apply q_s; (iterate 3 exact rfl); exact (by assumption); exact rfl))
    | (show AW _ _ _ _ _ _ _ _; first | refine aw_region ?_ | (refine aw_seqk ?_; intro K hK) | (apply aw_cond_f; exact rfl; exact rfl) | (apply aw_cond_f; exact rfl; exact (by assumption)) | refine aw_exit ?_ | refine aw_skip ?_)
    | refine thn_n ?_
    | (refine hK _ _ _ ?_; clear hK K)
    | refine thn_e ?_
    | refine inb_same ?_
    | (clear hK K; refine hK _ _ _ ?_; clear hK K))); all_goals (repeat (clear hK K)))
                  all_goals exact finc_n (fun z => z) .r0 (by simp only [renA, renL]) (fun _ _ => rfl) ⟨rfl, trivial⟩ rfl
              · have f2 : decide ((d : Int) < (e : Int)) = false := by simpa using x2
                rw [← hwe] at f2
                have hXl := hX.length_eq
                rw [if_neg (by simp; omega)] at hXd
                subst hXd
                have hvX := hv.perm hX
                have hi2 : ¬ (decide (a < i) && decide (i < d)) = true := by simp; omega
                rw [if_neg hi2] at hQ
                have hi3 : ¬ (decide (d < e) && decide (e < b)) = true := by simp; omega
                rw [if_neg hi3] at hQ
                subst hQ
                ((repeat' (first
    | (show SQ _ _ _ _ _ _ _ _; first | apply sq_nil | (apply q_move; exact rfl; exact rfl) | (apply q_assign; exact rfl; exact rfl) | (apply q_pick_t; (iterate 3 exact rfl); exact (by first | assumption | exact rfl)) | (apply q_pick_f; (iterate 3 exact rfl); exact (by first | assumption | exact rfl)) | (apply q_sub; iterate 3 exact rfl) | (apply q_lss; iterate 3 exact rfl) | (apply q_g; (iterate 3 exact rfl); exact (by assumption)) | (apply q_s; (iterate 3 exact rfl); exact (by assumption); exact rfl))
    | (show AW _ _ _ _ _ _ _ _; first | refine aw_region ?_ | (refine aw_seqk ?_; intro K hK) | (apply aw_cond_f; exact rfl; exact rfl) | (apply aw_cond_f; exact rfl; exact (by assumption)) | refine aw_exit ?_ | refine aw_skip ?_)
    | refine thn_n ?_
    | (refine hK _ _ _ ?_; clear hK K)
    | refine thn_e ?_
    | refine inb_same ?_
    | (clear hK K; refine hK _ _ _ ?_; clear hK K))); all_goals (repeat (clear hK K)))
                all_goals exact finc_n (fun z => z) .r0 (by simp only [renA, renL]) (fun _ _ => rfl) ⟨rfl, trivial⟩ rfl
        · have f0 : decide ((i : Int) < (m : Int)) = false := by simpa using x0
          by_cases x1 : a < i
          · have f1 : decide ((a : Int) < (i : Int)) = true := by simpa using x1
            by_cases y1 : i < d
            · have g1 : decide ((i : Int) < (d : Int)) = true := by simpa using y1
              by_cases x2 : d < e
              · have f2 : decide ((d : Int) < (e : Int)) = true := by simpa using x2
                rw [← hwe] at f2
                by_cases y2 : e < b
                · have g2 : decide ((e : Int) < (b : Int)) = true := by simpa using y2
                  rw [← hwe] at g2
                  have hXl := hX.length_eq
                  rw [if_neg (by simp; omega)] at hXd
                  subst hXd
                  have hvX := hv.perm hX
                  have hA := hI X a i d (by omega) hvX (by omega) (by omega) (by omega) (by omega) 0 1
                  have hAp := symF_perm (lt := ltO ls) (f := f) (a := a) (m := i) (b := d) (xs := X) (by omega) (by omega) (by omega)
                  have hAl := hAp.length_eq
                  have hvA := hvX.perm hAp
                  have hi2 : (decide (a < i) && decide (i < d)) = true := by simp; omega
                  rw [if_pos hi2] at hQ
                  generalize hY : symF (ltO ls) f a i d X = Y at *
                  have hB := hI Y d e b (by omega) hvA (by omega) (by omega) (by omega) (by omega) 0 1
                  have hi3 : (decide (d < e) && decide (e < b)) = true := by simp; omega
                  rw [if_pos hi3] at hQ
                  rw [hXl] at hA
                  rw [hAl, hXl, hQ, ← hwe] at hB
                  ((repeat' (first
    | (show SQ _ _ _ _ _ _ _ _; first | apply sq_nil | (apply q_move; exact rfl; exact rfl) | (apply q_assign; exact rfl; exact rfl) | (apply q_pick_t; (iterate 3 exact rfl); exact (by first | assumption | exact rfl)) | (apply q_pick_f; (iterate 3 exact rfl); exact (by first | assumption | exact rfl)) | (apply q_sub; iterate 3 exact rfl) | (apply q_lss; iterate 3 exact rfl) | (apply q_g; (iterate 3 exact rfl); exact (by assumption)) | (apply q_s; (iterate 3 exact rfl); exact (by assumption); exact rfl))
    | (show SQ _ _ _ _ _ _ _ _; (first | (apply q_callC; (iterate 3 exact rfl); exact hA; (focus ((repeat (first | exact trivial | refine ⟨by first | exact rfl | assumption, ?_⟩)); done)); skip) | (apply q_callC; (iterate 3 exact rfl); exact hB; (focus ((repeat (first | exact trivial | refine ⟨by first | exact rfl | assumption, ?_⟩)); done)); skip)); (try simp only [put, rowsOf, plR, selE, ovr, setH, del, cellsA, splice, isV, spq, if_true, if_false]))
    | (show AW _ _ _ _ _ _ _ _; first | refine aw_region ?_ | (refine aw_seqk ?_; intro K hK) | (apply aw_cond_f; exact rfl; exact rfl) | (apply aw_cond_t; exact rfl; exact (by assumption)) | (apply aw_cond_f; exact rfl; exact (by assumption)) | refine aw_exit ?_ | refine aw_skip ?_)
    | refine thn_n ?_
    | (refine hK _ _ _ ?_; clear hK K)
    | refine thn_e ?_
    | refine inb_same ?_
    | (clear hK K; refine hK _ _ _ ?_; clear hK K))); all_goals (repeat (clear hK K)))
                  all_goals exact finc_n (fun z => z) .r0 (by simp only [renA, renL]) (fun _ _ => rfl) ⟨rfl, trivial⟩ rfl
                · have g2 : decide ((e : Int) < (b : Int)) = false := by simpa using y2
                  rw [← hwe] at g2
                  have hXl := hX.length_eq
                  rw [if_neg (by simp; omega)] at hXd
                  subst hXd
                  have hvX := hv.perm hX
                  have hA := hI X a i d (by omega) hvX (by omega) (by omega) (by omega) (by omega) 0 1
                  have hAp := symF_perm (lt := ltO ls) (f := f) (a := a) (m := i) (b := d) (xs := X) (by omega) (by omega) (by omega)
                  have hAl := hAp.length_eq
                  have hvA := hvX.perm hAp
                  have hi2 : (decide (a < i) && decide (i < d)) = true := by simp; omega
                  rw [if_pos hi2] at hQ
                  generalize hY : symF (ltO ls) f a i d X = Y at *
                  have hi3 : ¬ (decide (d < e) && decide (e < b)) = true := by simp; omega
                  rw [if_neg hi3] at hQ
                  rw [hXl] at hA
                  subst hQ
                  ((repeat' (first
    | (show SQ _ _ _ _ _ _ _ _; first | apply sq_nil | (apply q_move; exact rfl; exact rfl) | (apply q_assign; exact rfl; exact rfl) | (apply q_pick_t; (iterate 3 exact rfl); exact (by first | assumption | exact rfl)) | (apply q_pick_f; (iterate 3 exact rfl); exact (by first | assumption | exact rfl)) | (apply q_sub; iterate 3 exact rfl) | (apply q_lss; iterate 3 exact rfl) | (apply q_g; (iterate 3 exact rfl); exact (by assumption)) | (apply q_s; (iterate 3 exact rfl); exact (by assumption); exact rfl))
    | (show SQ _ _ _ _ _ _ _ _; (first | (apply q_callC; (iterate 3 exact rfl); exact hA; (focus ((repeat (first | exact trivial | refine ⟨by first | exact rfl | assumption, ?_⟩)); done)); skip)); (try simp only [put, rowsOf, plR, selE, ovr, setH, del, cellsA, splice, isV, spq, if_true, if_false]))
    | (show AW _ _ _ _ _ _ _ _; first | refine aw_region ?_ | (refine aw_seqk ?_; intro K hK) | (apply aw_cond_f; exact rfl; exact rfl) | (apply aw_cond_t; exact rfl; exact (by assumption)) | (apply aw_cond_f; exact rfl; exact (by assumption)) | refine aw_exit ?_ | refine aw_skip ?_)
    | refine thn_n ?_
    | (refine hK _ _ _ ?_; clear hK K)
    | refine thn_e ?_
    | refine inb_same ?_
    | (clear hK K; refine hK _ _ _ ?_; clear hK K))); all_goals (repeat (clear hK K)))
                  all_goals exact finc_n (fun z => z) .r0 (by simp only [renA, renL]) (fun _ _ => rfl) ⟨rfl, trivial⟩ rfl
              · have f2 : decide ((d : Int) < (e : Int)) = false := by simpa using x2
                rw [← hwe] at f2
                have hXl := hX.length_eq
                rw [if_neg (by simp; omega)] at hXd
                subst hXd
                have hvX := hv.perm hX
                have hA := hI X a i d (by omega) hvX (by omega) (by omega) (by omega) (by omega) 0 1
                have hAp := symF_perm (lt := ltO ls) (f := f) (a := a) (m := i) (b := d) (xs := X) (by omega) (by omega) (by omega)
                have hAl := hAp.length_eq
                have hvA := hvX.perm hAp
                have hi2 : (decide (a < i) && decide (i < d)) = true := by simp; omega
                rw [if_pos hi2] at hQ
                generalize hY : symF (ltO ls) f a i d X = Y at *
                have hi3 : ¬ (decide (d < e) && decide (e < b)) = true := by simp; omega
                rw [if_neg hi3] at hQ
                rw [hXl] at hA
                subst hQ
                ((repeat' (first
    | (show SQ _ _ _ _ _ _ _ _; first | apply sq_nil | (apply q_move; exact rfl; exact rfl) | (apply q_assign; exact rfl; exact rfl) | (apply q_pick_t; (iterate 3 exact rfl); exact (by first | assumption | exact rfl)) | (apply q_pick_f; (iterate 3 exact rfl); exact (by first | assumption | exact rfl)) | (apply q_sub; iterate 3 exact rfl) | (apply q_lss; iterate 3 exact rfl) | (apply q_g; (iterate 3 exact rfl); exact (by assumption)) | (apply q_s; (iterate 3 exact rfl); exact (by assumption); exact rfl))
    | (show SQ _ _ _ _ _ _ _ _; (first | (apply q_callC; (iterate 3 exact rfl); exact hA; (focus ((repeat (first | exact trivial | refine ⟨by first | exact rfl | assumption, ?_⟩)); done)); skip)); (try simp only [put, rowsOf, plR, selE, ovr, setH, del, cellsA, splice, isV, spq, if_true, if_false]))
    | (show AW _ _ _ _ _ _ _ _; first | refine aw_region ?_ | (refine aw_seqk ?_; intro K hK) | (apply aw_cond_f; exact rfl; exact rfl) | (apply aw_cond_t; exact rfl; exact (by assumption)) | (apply aw_cond_f; exact rfl; exact (by assumption)) | refine aw_exit ?_ | refine aw_skip ?_)
    | refine thn_n ?_
    | (refine hK _ _ _ ?_; clear hK K)
    | refine thn_e ?_
    | refine inb_same ?_
    | (clear hK K; refine hK _ _ _ ?_; clear hK K))); all_goals (repeat (clear hK K)))
                all_goals exact finc_n (fun z => z) .r0 (by simp only [renA, renL]) (fun _ _ => rfl) ⟨rfl, trivial⟩ rfl
            · have g1 : decide ((i : Int) < (d : Int)) = false := by simpa using y1
              by_cases x2 : d < e
              · have f2 : decide ((d : Int) < (e : Int)) = true := by simpa using x2
                rw [← hwe] at f2
                by_cases y2 : e < b
                · have g2 : decide ((e : Int) < (b : Int)) = true := by simpa using y2
                  rw [← hwe] at g2
                  have hXl := hX.length_eq
                  rw [if_neg (by simp; omega)] at hXd
                  subst hXd
                  have hvX := hv.perm hX
                  have hi2 : ¬ (decide (a < i) && decide (i < d)) = true := by simp; omega
                  rw [if_neg hi2] at hQ
                  have hB := hI X d e b (by omega) hvX (by omega) (by omega) (by omega) (by omega) 0 1
                  have hi3 : (decide (d < e) && decide (e < b)) = true := by simp; omega
                  rw [if_pos hi3] at hQ
                  rw [hXl, hQ, ← hwe] at hB
                  ((repeat' (first
    | (show SQ _ _ _ _ _ _ _ _; first | apply sq_nil | (apply q_move; exact rfl; exact rfl) | (apply q_assign; exact rfl; exact rfl) | (apply q_pick_t; (iterate 3 exact rfl); exact (by first | assumption | exact rfl)) | (apply q_pick_f; (iterate 3 exact rfl); exact (by first | assumption | exact rfl)) | (apply q_sub; iterate 3 exact rfl) | (apply q_lss; iterate 3 exact rfl) | (apply q_g; (iterate 3 exact rfl); exact (by assumption)) | (apply q_s; (iterate 3 exact rfl); exact (by assumption); exact rfl))
    | (show SQ _ _ _ _ _ _ _ _; (first | (apply q_callC; (iterate 3 exact rfl); exact hB; (focus ((repeat (first | exact trivial | refine ⟨by first | exact rfl | assumption, ?_⟩)); done)); skip)); (try simp only [put, rowsOf, plR, selE, ovr, setH, del, cellsA, splice, isV, spq, if_true, if_false]))
    | (show AW _ _ _ _ _ _ _ _; first | refine aw_region ?_ | (refine aw_seqk ?_; intro K hK) | (apply aw_cond_f; exact rfl; exact rfl) | (apply aw_cond_t; exact rfl; exact (by assumption)) | (apply aw_cond_f; exact rfl; exact (by assumption)) | refine aw_exit ?_ | refine aw_skip ?_)
    | refine thn_n ?_
    | (refine hK _ _ _ ?_; clear hK K)
    | refine thn_e ?_
    | refine inb_same ?_
    | (clear hK K; refine hK _ _ _ ?_; clear hK K))); all_goals (repeat (clear hK K)))
                  all_goals exact finc_n (fun z => z) .r0 (by simp only [renA, renL]) (fun _ _ => rfl) ⟨rfl, trivial⟩ rfl
                · have g2 : decide ((e : Int) < (b : Int)) = false := by simpa using y2
                  rw [← hwe] at g2
                  have hXl := hX.length_eq
                  rw [if_neg (by simp; omega)] at hXd
                  subst hXd
                  have hvX := hv.perm hX
                  have hi2 : ¬ (decide (a < i) && decide (i < d)) = true := by simp; omega
                  rw [if_neg hi2] at hQ
                  have hi3 : ¬ (decide (d < e) && decide (e < b)) = true := by simp; omega
                  rw [if_neg hi3] at hQ
                  subst hQ
                  ((repeat' (first
    | (show SQ _ _ _ _ _ _ _ _; first | apply sq_nil | (apply q_move; exact rfl; exact rfl) | (apply q_assign; exact rfl; exact rfl) | (apply q_pick_t; (iterate 3 exact rfl); exact (by first | assumption | exact rfl)) | (apply q_pick_f; (iterate 3 exact rfl); exact (by first | assumption | exact rfl)) | (apply q_sub; iterate 3 exact rfl) | (apply q_lss; iterate 3 exact rfl) | (apply q_g; (iterate 3 exact rfl); exact (by assumption)) | (apply q_s; (iterate 3 exact rfl); exact (by assumption); exact rfl))
    | (show AW _ _ _ _ _ _ _ _; first | refine aw_region ?_ | (refine aw_seqk ?_; intro K hK) | (apply aw_cond_f; exact rfl; exact rfl) | (apply aw_cond_f; exact rfl; exact (by assumption)) | refine aw_exit ?_ | refine aw_skip ?_)
    | refine thn_n ?_
    | (refine hK _ _ _ ?_; clear hK K)
    | refine thn_e ?_
    | refine inb_same ?_
    | (clear hK K; refine hK _ _ _ ?_; clear hK K))); all_goals (repeat (clear hK K)))
                  all_goals exact finc_n (fun z => z) .r0 (by simp only [renA, renL]) (fun _ _ => rfl) ⟨rfl, trivial⟩ rfl
              · have f2 : decide ((d : Int) < (e : Int)) = false := by simpa using x2
                rw [← hwe] at f2
                have hXl := hX.length_eq
                rw [if_neg (by simp; omega)] at hXd
                subst hXd
                have hvX := hv.perm hX
                have hi2 : ¬ (decide (a < i) && decide (i < d)) = true := by simp; omega
                rw [if_neg hi2] at hQ
                have hi3 : ¬ (decide (d < e) && decide (e < b)) = true := by simp; omega
                rw [if_neg hi3] at hQ
                subst hQ
                ((repeat' (first
    | (show SQ _ _ _ _ _ _ _ _; first | apply sq_nil | (apply q_move; exact rfl; exact rfl) | (apply q_assign; exact rfl; exact rfl) | (apply q_pick_t; (iterate 3 exact rfl); exact (by first | assumption | exact rfl)) | (apply q_pick_f; (iterate 3 exact rfl); exact (by first | assumption | exact rfl)) | (apply q_sub; iterate 3 exact rfl) | (apply q_lss; iterate 3 exact rfl) | (apply q_g; (iterate 3 exact rfl); exact (by assumption)) | (apply q_s; (iterate 3 exact rfl); exact (by assumption); exact rfl))
    | (show AW _ _ _ _ _ _ _ _; first | refine aw_region ?_ | (refine aw_seqk ?_; intro K hK) | (apply aw_cond_f; exact rfl; exact rfl) | (apply aw_cond_f; exact rfl; exact (by assumption)) | refine aw_exit ?_ | refine aw_skip ?_)
    | refine thn_n ?_
    | (refine hK _ _ _ ?_; clear hK K)
    | refine thn_e ?_
    | refine inb_same ?_
    | (clear hK K; refine hK _ _ _ ?_; clear hK K))); all_goals (repeat (clear hK K)))
                all_goals exact finc_n (fun z => z) .r0 (by simp only [renA, renL]) (fun _ _ => rfl) ⟨rfl, trivial⟩ rfl
          · have f1 : decide ((a : Int) < (i : Int)) = false := by simpa using x1
            by_cases x2 : d < e
            · have f2 : decide ((d : Int) < (e : Int)) = true := by simpa using x2
              rw [← hwe] at f2
              by_cases y2 : e < b
              · have g2 : decide ((e : Int) < (b : Int)) = true := by simpa using y2
                rw [← hwe] at g2
                have hXl := hX.length_eq
                rw [if_neg (by simp; omega)] at hXd
                subst hXd
                have hvX := hv.perm hX
                have hi2 : ¬ (decide (a < i) && decide (i < d)) = true := by simp; omega
                rw [if_neg hi2] at hQ
                have hB := hI X d e b (by omega) hvX (by omega) (by omega) (by omega) (by omega) 0 1
                have hi3 : (decide (d < e) && decide (e < b)) = true := by simp; omega
                rw [if_pos hi3] at hQ
                rw [hXl, hQ, ← hwe] at hB
                ((repeat' (first
    | (show SQ _ _ _ _ _ _ _ _; first | apply sq_nil | (apply q_move; exact rfl; exact rfl) | (apply q_assign; exact rfl; exact rfl) | (apply q_pick_t; (iterate 3 exact rfl); exact (by first | assumption | exact rfl)) | (apply q_pick_f; (iterate 3 exact rfl); exact (by first | assumption | exact rfl)) | (apply q_sub; iterate 3 exact rfl) | (apply q_lss; iterate 3 exact rfl) | (apply q_g; (iterate 3 exact rfl); exact (by assumption)) | (apply q_s; (iterate 3 exact rfl); exact (by assumption); exact rfl))
    | (show SQ _ _ _ _ _ _ _ _; (first | (apply q_callC; (iterate 3 exact rfl); exact hB; (focus ((repeat (first | exact trivial | refine ⟨by first | exact rfl | assumption, ?_⟩)); done)); skip)); (try simp only [put, rowsOf, plR, selE, ovr, setH, del, cellsA, splice, isV, spq, if_true, if_false]))
    | (show AW _ _ _ _ _ _ _ _; first | refine aw_region ?_ | (refine aw_seqk ?_; intro K hK) | (apply aw_cond_f; exact rfl; exact rfl) | (apply aw_cond_t; exact rfl; exact (by assumption)) | (apply aw_cond_f; exact rfl; exact (by assumption)) | refine aw_exit ?_ | refine aw_skip ?_)
    | refine thn_n ?_
    | (refine hK _ _ _ ?_; clear hK K)
    | refine thn_e ?_
    | refine inb_same ?_
    | (clear hK K; refine hK _ _ _ ?_; clear hK K))); all_goals (repeat (clear hK K)))
                all_goals exact finc_n (fun z => z) .r0 (by simp only [renA, renL]) (fun _ _ => rfl) ⟨rfl, trivial⟩ rfl
              · have g2 : decide ((e : Int) < (b : Int)) = false := by simpa using y2
                rw [← hwe] at g2
                have hXl := hX.length_eq
                rw [if_neg (by simp; omega)] at hXd
                subst hXd
                have hvX := hv.perm hX
                have hi2 : ¬ (decide (a < i) && decide (i < d)) = true := by simp; omega
                rw [if_neg hi2] at hQ
                have hi3 : ¬ (decide (d < e) && decide (e < b)) = true := by simp; omega
                rw [if_neg hi3] at hQ
                subst hQ
                ((repeat' (first
    | (show SQ _ _ _ _ _ _ _ _; first | apply sq_nil | (apply q_move; exact rfl; exact rfl) | (apply q_assign; exact rfl; exact rfl) | (apply q_pick_t; (iterate 3 exact rfl); exact (by first | assumption | exact rfl)) | (apply q_pick_f; (iterate 3 exact rfl); exact (by first | assumption | exact rfl)) | (apply q_sub; iterate 3 exact rfl) | (apply q_lss; iterate 3 exact rfl) | (apply q_g; (iterate 3 exact rfl); exact (by assumption)) | (apply q_s; (iterate 3 exact rfl); exact (by assumption); exact rfl))
    | (show AW _ _ _ _ _ _ _ _; first | refine aw_region ?_ | (refine aw_seqk ?_; intro K hK) | (apply aw_cond_f; exact rfl; exact rfl) | (apply aw_cond_f; exact rfl; exact (by assumption)) | refine aw_exit ?_ | refine aw_skip ?_)
    | refine thn_n ?_
    | (refine hK _ _ _ ?_; clear hK K)
    | refine thn_e ?_
    | refine inb_same ?_
    | (clear hK K; refine hK _ _ _ ?_; clear hK K))); all_goals (repeat (clear hK K)))
                all_goals exact finc_n (fun z => z) .r0 (by simp only [renA, renL]) (fun _ _ => rfl) ⟨rfl, trivial⟩ rfl
            · have f2 : decide ((d : Int) < (e : Int)) = false := by simpa using x2
              rw [← hwe] at f2
              have hXl := hX.length_eq
              rw [if_neg (by simp; omega)] at hXd
              subst hXd
              have hvX := hv.perm hX
              have hi2 : ¬ (decide (a < i) && decide (i < d)) = true := by simp; omega
              rw [if_neg hi2] at hQ
              have hi3 : ¬ (decide (d < e) && decide (e < b)) = true := by simp; omega
              rw [if_neg hi3] at hQ
              subst hQ
              ((repeat' (first
    | (show SQ _ _ _ _ _ _ _ _; first | apply sq_nil | (apply q_move; exact rfl; exact rfl) | (apply q_assign; exact rfl; exact rfl) | (apply q_pick_f; (iterate 3 exact rfl); exact (by first | assumption | exact rfl)) | (apply q_sub; iterate 3 exact rfl) | (apply q_lss; iterate 3 exact rfl) | (apply q_s; (iterate 3 exact rfl); exact (by assumption); exact rfl))
    | (show AW _ _ _ _ _ _ _ _; first | refine aw_region ?_ | (refine aw_seqk ?_; intro K hK) | (apply aw_cond_f; exact rfl; exact rfl) | (apply aw_cond_f; exact rfl; exact (by assumption)) | refine aw_exit ?_ | refine aw_skip ?_)
    | refine thn_n ?_
    | (refine hK _ _ _ ?_; clear hK K)
    | refine thn_e ?_
    | refine inb_same ?_
    | (clear hK K; refine hK _ _ _ ?_; clear hK K))); all_goals (repeat (clear hK K)))
              all_goals exact finc_n (fun z => z) .r0 (by simp only [renA, renL]) (fun _ _ => rfl) ⟨rfl, trivial⟩ rfl
end Go.Proofs.Ytglfcaioapdiaaa.Bk

namespace Go.Proofs.Ytglfcaioapdiaaa.Bk
open Go Go.RowKit Go.Proofs.Ytglfcaioapdiaaa.Aw
set_option linter.unusedSimpArgs false
set_option linter.unusedVariables false
attribute [local irreducible] AW SQ Step RO RC DE Thn InB
theorem insJ_perm {lt : Int → Int → Bool} {a : Nat} : ∀ {j : Nat} {xs : List Int}, j < xs.length → (insJ lt a j xs).Perm xs
  | 0, xs, _ => .refl _
  | j + 1, xs, hj => by
    rw [insJ]; split
    · exact (insJ_perm (j := j) (by rw [lsw_len]; omega)).trans (lsw_perm hj (by omega))
    · exact .refl _
theorem insO_perm {lt : Int → Int → Bool} {a : Nat} {xs : List Int} : ∀ {c : Nat}, a + c < xs.length ∨ c = 0 → (insO lt a c xs).Perm xs
  | 0, _ => .refl _
  | c + 1, h => by
    rw [insO]
    exact (insJ_perm (by rw [insO_len]; omega)).trans (insO_perm (c := c) (by omega))
def stF (lt : Int → Int → Bool) (xs : List Int) : List Int :=
  if xs.length < 20 then insO lt 0 (xs.length - 1) xs
  else if xs.length = 20 then insO lt 20 0 (insO lt 0 19 xs)
  else symF lt xs.length 0 20 xs.length (insO lt 20 (xs.length - 21) (insO lt 0 19 xs))
set_option maxHeartbeats 4000000 in
theorem stable_rc (n : Int) (ls : List Ln) (hn : ls.length ≤ 1048576) (xs : List Int) (hx : xs.length ≤ 32) (hv : Vd ls xs) (bi k : Nat) :
    RC Try.prog 111 [.sl bi 0 xs.length, .v (.int .i64 (xs.length : Int)), stC n ls] [(bi, ⟨2, 1, true, xs.map inL⟩)] k (.tup []) [(bi, some ⟨2, 1, true, (stF (ltO ls) xs).map inL⟩)] k := by
  have hml : (xs.map inL).length = xs.length := List.length_map _
  have w40 : IntKind.i64.wrap (20 + 20) = 40 := by decide
  have w400 : IntKind.i64.wrap (2 * 20) = 40 := by decide
  have w401 : IntKind.i64.wrap (20 * 2) = 40 := by decide
  have w20 : IntKind.i64.wrap (0 + 20) = 20 := by decide
  generalize hQ : stF (ltO ls) xs = Q
  unfold stF at hQ
  have hp1 : 20 ≤ xs.length → (insO (ltO ls) 0 19 xs).Perm xs := fun h => insO_perm (by omega)
  refine RC.ofc [bi] 0 [.sl 0 0 xs.length, .v (.int .i64 (xs.length : Int)), stC n ls] [(0, ⟨2, 1, true, xs.map inL⟩)] (.tup []) [(0, some ⟨2, 1, true, Q.map inL⟩)] Try.func111 Try.ntmps111 rfl (goFn_of Try.func111 rfl (by kernel_rfl)) rfl rfl rfl rfl rfl rfl rfl rfl (by simp_all) rfl ?_
  ((repeat' (first
    | (show SQ _ _ _ _ _ _ _ _; first | apply sq_nil | (apply q_move; exact rfl; exact rfl) | (apply q_assign; exact rfl; exact rfl))
    | (show AW _ _ _ _ _ _ _ _; first | refine aw_region ?_ | (refine aw_seqk ?_; intro K hK) | refine aw_block ?_)
    | refine thn_n ?_
    | (refine hK _ _ _ ?_; clear hK K))); all_goals (repeat (clear hK K)))
  refine aw_loop (ρ := fun z => z) (ι := Nat) (fun s => ([(8, .v (.int .i64 ((20 * s + 20 : Nat) : Int))), (7, .v (.int .i64 ((20 * s : Nat) : Int))), (6, .v (.int .i64 20)), (2, stC n ls), (1, .v (.int .i64 (xs.length : Int))), (0, .sl 0 0 xs.length)], [(0, ⟨2, 1, true, (if s = 0 then xs else insO (ltO ls) 0 19 xs).map inL⟩)], 1))
    (fun s => s ≤ 1 ∧ (s = 1 → 20 ≤ xs.length)) (fun s => 1 - s) 0 ⟨by omega, fun h => by cases h⟩ ⟨by (repeat (refine ⟨by first | exact lk_i rfl rfl | exact lk_s rfl rfl rfl rfl | exact lk_f rfl, ?_⟩)); exact trivial, by (repeat (refine ⟨by first | exact ⟨rfl, rfl, rfl⟩, ?_⟩)); exact trivial, by rfl, by (intro i hi; (try dsimp only); refine ⟨?_, ?_⟩ <;> first | rfl | omega | (simp at hi; omega) | (simp; omega))⟩ ?_
  rintro s ⟨s1, s2⟩
  by_cases c1 : 20 * s + 20 ≤ xs.length
  · obtain rfl : s = 0 := by omega
    have b1 : decide (((20 * 0 + 20 : Nat) : Int) ≤ (xs.length : Int)) = true := by rw [decide_eq_true_eq]; omega
    have hI := insertionSort_rc n ls xs 0 20 hn (by omega) hv (by omega) (by omega) 0 1
    have hol := insO_len (ltO ls) 0 xs 19
    ((repeat' (first
    | (show SQ _ _ _ _ _ _ _ _; first | apply sq_nil | (apply q_move; exact rfl; exact rfl) | (apply q_assign; exact rfl; exact rfl) | (apply q_add; iterate 3 exact rfl) | (apply q_leq; iterate 3 exact rfl))
    | (show SQ _ _ _ _ _ _ _ _; (first | (apply q_callC; (iterate 3 exact rfl); exact hI; (focus ((repeat (first | exact trivial | refine ⟨by first | exact rfl | assumption, ?_⟩)); done)); skip)); (try simp only [put, rowsOf, plR, selE, ovr, setH, del, cellsA, splice, isV, spq, if_true, if_false]))
    | (show AW _ _ _ _ _ _ _ _; first | refine aw_region ?_ | (refine aw_seqk ?_; intro K hK) | refine aw_block ?_ | (apply aw_cond_t; exact rfl; exact (by assumption)) | refine aw_skip ?_)
    | refine thn_n ?_
    | (refine hK _ _ _ ?_; clear hK K)
    | refine inb_n ?_)); all_goals (repeat (clear hK K)))
    all_goals (refine ⟨1, fun z => z, ⟨Nat.le_refl _, fun _ => c1⟩, by omega, ?_⟩; (try dsimp only); exact ⟨by (repeat (refine ⟨by first | exact lk_i rfl rfl | exact lk_s rfl rfl rfl rfl | exact lk_f rfl, ?_⟩)); exact trivial, by (repeat (refine ⟨by first | exact ⟨rfl, rfl, rfl⟩, ?_⟩)); exact trivial, by rfl, by (intro i hi; (try dsimp only); refine ⟨?_, ?_⟩ <;> first | rfl | omega | (simp at hi; omega) | (simp; omega))⟩)
  have b1 : decide (((20 * s + 20 : Nat) : Int) ≤ (xs.length : Int)) = false := by rw [decide_eq_false_iff_not]; omega
  have hA : (if s = 0 then xs else insO (ltO ls) 0 19 xs).Perm xs := by
    split
    · exact .refl _
    · exact hp1 (s2 (by omega))
  have hAl := hA.length_eq
  have hvA := hv.perm hA
  have hI := insertionSort_rc n ls (if s = 0 then xs else insO (ltO ls) 0 19 xs) (20 * s) xs.length hn (by omega) hvA (by by_cases h : s = 1; (have := s2 h; omega); omega) (by omega) 0 1
  have hBp := insO_perm (lt := ltO ls) (a := 20 * s) (xs := if s = 0 then xs else insO (ltO ls) 0 19 xs) (c := xs.length - (20 * s + 1)) (by omega)
  have hQ2 : Q = if 20 < xs.length then symF (ltO ls) xs.length 0 20 xs.length (insO (ltO ls) (20 * s) (xs.length - (20 * s + 1)) (if s = 0 then xs else insO (ltO ls) 0 19 xs)) else insO (ltO ls) (20 * s) (xs.length - (20 * s + 1)) (if s = 0 then xs else insO (ltO ls) 0 19 xs) := by
    rw [← hQ]
    by_cases h : s = 0
    · subst h
      rw [if_pos (show xs.length < 20 by omega), if_neg (show ¬ 20 < xs.length by omega), if_pos rfl, Nat.mul_zero, Nat.zero_add]
    · obtain rfl : s = 1 := by omega
      have := s2 rfl
      rw [if_neg (show ¬ xs.length < 20 by omega), if_neg (show ¬ (1 : Nat) = 0 by decide), Nat.mul_one]
      by_cases h2 : xs.length = 20
      · rw [if_pos h2, if_neg (show ¬ 20 < xs.length by omega), h2]
      · rw [if_neg h2, if_pos (show 20 < xs.length by omega)]
  rw [hAl] at hI
  clear hQ
  generalize (if s = 0 then xs else insO (ltO ls) 0 19 xs) = A at *
  generalize insO (ltO ls) (20 * s) (xs.length - (20 * s + 1)) A = B at *
  have hBl := hBp.length_eq
  have hvB := hvA.perm hBp
  ((repeat' (first
    | (show SQ _ _ _ _ _ _ _ _; first | apply sq_nil | (apply q_move; exact rfl; exact rfl) | (apply q_leq; iterate 3 exact rfl))
    | (show SQ _ _ _ _ _ _ _ _; (first | (apply q_callC; (iterate 3 exact rfl); exact hI; (focus ((repeat (first | exact trivial | refine ⟨by first | exact rfl | assumption, ?_⟩)); done)); skip)); (try simp only [put, rowsOf, plR, selE, ovr, setH, del, cellsA, splice, isV, spq, if_true, if_false]))
    | (show AW _ _ _ _ _ _ _ _; first | refine aw_region ?_ | (refine aw_seqk ?_; intro K hK) | refine aw_block ?_ | (apply aw_cond_f; exact rfl; exact (by assumption)) | refine aw_exit ?_)
    | refine thn_n ?_
    | (refine hK _ _ _ ?_; clear hK K)
    | refine thn_e ?_
    | refine inb_same ?_
    | (clear hK K; refine hK _ _ _ ?_; clear hK K))); all_goals (repeat (clear hK K)))
  refine aw_loop (ρ := fun z => z) (ι := Nat) (fun s => ([(6, .v (.int .i64 ((20 * s + 20 : Nat) : Int))), (2, stC n ls), (1, .v (.int .i64 (xs.length : Int))), (0, .sl 0 0 xs.length)], [(0, ⟨2, 1, true, (if s = 0 then B else Q).map inL⟩)], 1))
    (fun s => s ≤ 1 ∧ (s = 1 → 20 < xs.length)) (fun s => 1 - s) 0 ⟨by omega, fun h => by cases h⟩ ⟨by (repeat (refine ⟨by first | exact lk_i rfl rfl | exact lk_s rfl rfl rfl rfl | exact lk_f rfl, ?_⟩)); exact trivial, by (repeat (refine ⟨by first | exact ⟨rfl, rfl, rfl⟩, ?_⟩)); exact trivial, by rfl, by (intro i hi; (try dsimp only); refine ⟨?_, ?_⟩ <;> first | rfl | omega | (simp at hi; omega) | (simp; omega))⟩ ?_
  rintro s' ⟨t1, t2⟩
  by_cases c2 : 20 * s' + 20 < xs.length
  · obtain rfl : s' = 0 := by omega
    have b2 : decide (((20 * 0 + 20 : Nat) : Int) < (xs.length : Int)) = true := by rw [decide_eq_true_eq]; omega
    have b3 : decide ((40 : Int) ≤ (xs.length : Int)) = false := by rw [decide_eq_false_iff_not]; omega
    have b4 : decide ((20 : Int) < (xs.length : Int)) = true := by rw [decide_eq_true_eq]; omega
    have hS := symMerge_rc n ls hn xs.length B 0 20 xs.length (by omega) hvB (by omega) (by omega) (by omega) (by omega) 0 1
    rw [if_pos (by omega)] at hQ2
    rw [← hQ2, hBl, hAl] at hS
    ((repeat' (first
    | (show SQ _ _ _ _ _ _ _ _; first | apply sq_nil | (apply q_move; exact rfl; exact rfl) | (apply q_assign; exact rfl; exact rfl) | (apply q_mul; iterate 3 exact rfl) | (apply q_lss; iterate 3 exact rfl))
    | (show AW _ _ _ _ _ _ _ _; first | refine aw_region ?_ | (refine aw_seqk ?_; intro K hK) | refine aw_block ?_ | (apply aw_cond_t; exact rfl; exact (by assumption)) | refine aw_skip ?_)
    | refine thn_n ?_
    | (refine hK _ _ _ ?_; clear hK K))); all_goals (repeat (clear hK K)))
    refine aw_loop (ρ := fun z => z) (ι := Unit) (fun s => ([(8, .v (.int .i64 40)), (7, .v (.int .i64 0)), (6, .v (.int .i64 20)), (2, stC n ls), (1, .v (.int .i64 (xs.length : Int))), (0, .sl 0 0 xs.length)], [(0, ⟨2, 1, true, B.map inL⟩)], 1))
      (fun _ => True) (fun _ => 0) () trivial ⟨by (repeat (refine ⟨by first | exact lk_i rfl rfl | exact lk_s rfl rfl rfl rfl | exact lk_f rfl, ?_⟩)); exact trivial, by (repeat (refine ⟨by first | exact ⟨rfl, rfl, rfl⟩, ?_⟩)); exact trivial, by rfl, by (intro i hi; (try dsimp only); refine ⟨?_, ?_⟩ <;> first | rfl | omega | (simp at hi; omega) | (simp; omega))⟩ ?_
    rintro _ _
    ((repeat' (first
    | (show SQ _ _ _ _ _ _ _ _; first | apply sq_nil | (apply q_move; exact rfl; exact rfl) | (apply q_assign; exact rfl; exact rfl) | (apply q_add; iterate 3 exact rfl) | (apply q_mul; iterate 3 exact rfl) | (apply q_lss; iterate 3 exact rfl) | (apply q_leq; iterate 3 exact rfl))
    | (show SQ _ _ _ _ _ _ _ _; (first | (apply q_callC; (iterate 3 exact rfl); exact hS; (focus ((repeat (first | exact trivial | refine ⟨by first | exact rfl | assumption, ?_⟩)); done)); skip)); (try simp only [put, rowsOf, plR, selE, ovr, setH, del, cellsA, splice, isV, spq, if_true, if_false]))
    | (show AW _ _ _ _ _ _ _ _; first | refine aw_region ?_ | (refine aw_seqk ?_; intro K hK) | (apply aw_cond_t; exact rfl; exact (by assumption)) | (apply aw_cond_f; exact rfl; exact (by assumption)) | refine aw_exit ?_)
    | refine thn_n ?_
    | (refine hK _ _ _ ?_; clear hK K)
    | refine thn_e ?_
    | refine inb_same ?_
    | refine inb_n ?_
    | (clear hK K; refine hK _ _ _ ?_; clear hK K))); all_goals (repeat (clear hK K)))
    all_goals (refine ⟨1, fun z => z, ⟨Nat.le_refl _, fun _ => c2⟩, by omega, ?_⟩; (try dsimp only); exact ⟨by (repeat (refine ⟨by first | exact lk_i rfl rfl | exact lk_s rfl rfl rfl rfl | exact lk_f rfl, ?_⟩)); exact trivial, by (repeat (refine ⟨by first | exact ⟨rfl, rfl, rfl⟩, ?_⟩)); exact trivial, by rfl, by (intro i hi; (try dsimp only); refine ⟨?_, ?_⟩ <;> first | rfl | omega | (simp at hi; omega) | (simp; omega))⟩)
  have b2 : decide (((20 * s' + 20 : Nat) : Int) < (xs.length : Int)) = false := by rw [decide_eq_false_iff_not]; omega
  have hfin : (if s' = 0 then B else Q) = Q := by
    by_cases h : s' = 0
    · subst h; rw [if_pos rfl, hQ2, if_neg (by omega)]
    · rw [if_neg h]
  rw [hfin]
  ((repeat' (first
    | (show SQ _ _ _ _ _ _ _ _; first | apply sq_nil | (apply q_move; exact rfl; exact rfl) | (apply q_lss; iterate 3 exact rfl))
    | (show AW _ _ _ _ _ _ _ _; first | refine aw_region ?_ | (refine aw_seqk ?_; intro K hK) | (apply aw_cond_f; exact rfl; exact (by assumption)) | refine aw_exit ?_)
    | refine thn_n ?_
    | (refine hK _ _ _ ?_; clear hK K)
    | refine thn_e ?_
    | refine inb_same ?_)); all_goals (repeat (clear hK K)))
  all_goals exact finc_n (fun z => z) .r0 (by simp only [renA, renL]) (fun _ _ => rfl) ⟨rfl, trivial⟩ rfl
set_option maxHeartbeats 4000000 in
theorem SortStable_rc (n : Int) (ls : List Ln) (hn : ls.length ≤ 1048576) (xs : List Int) (hx : xs.length ≤ 32) (hv : Vd ls xs) (bi k : Nat) :
    RC Try.prog 76 [.sl bi 0 xs.length, stC n ls] [(bi, ⟨2, 1, true, xs.map inL⟩)] k (.tup []) [(bi, some ⟨2, 1, true, (stF (ltO ls) xs).map inL⟩)] k := by
  have hS := stable_rc n ls hn xs hx hv 0 1
  refine RC.ofc [bi] 0 [.sl 0 0 xs.length, stC n ls] [(0, ⟨2, 1, true, xs.map inL⟩)] (.tup []) [(0, some ⟨2, 1, true, (stF (ltO ls) xs).map inL⟩)] Try.func76 Try.ntmps76 rfl (goFn_of Try.func76 rfl (by kernel_rfl)) rfl rfl rfl rfl rfl rfl rfl rfl (by simp_all) rfl ?_
  ((repeat' (first
    | (show SQ _ _ _ _ _ _ _ _; first | apply sq_nil | (apply q_move; exact rfl; exact rfl) | (apply q_lenl; exact rfl; exact rfl; exact (ty rfl); exact rfl))
    | (show SQ _ _ _ _ _ _ _ _; (first | (apply q_callC; (iterate 3 exact rfl); exact hS; (focus ((repeat (first | exact trivial | refine ⟨by first | exact rfl | assumption, ?_⟩)); done)); skip)); (try simp only [put, rowsOf, plR, selE, ovr, setH, del, cellsA, splice, isV, spq, if_true, if_false]))
    | (show AW _ _ _ _ _ _ _ _; first | refine aw_region ?_))); all_goals (repeat (clear hK K)))
  all_goals exact finc_n (fun z => z) .r0 (by simp only [renA, renL]) (fun _ _ => rfl) ⟨rfl, trivial⟩ rfl
end Go.Proofs.Ytglfcaioapdiaaa.Bk

namespace Go.Proofs.Ytglfcaioapdiaaa.Bk
open Go
set_option linter.unusedSimpArgs false
set_option linter.unusedVariables false
theorem getD_app_r {U V : List Int} {x : Int} {k : Nat} (h : k = U.length) : (U ++ x :: V).getD k 0 = x := by
  subst h; simp [List.getD]
theorem lsw_app {U V W : List Int} {x y : Int} {i j : Nat} (hi : i = U.length) (hj : j = U.length + 1 + V.length) : lsw (U ++ x :: (V ++ y :: W)) i j = U ++ y :: (V ++ x :: W) := by
  subst hi hj
  have e1 : (U ++ x :: (V ++ y :: W)).getD U.length 0 = x := getD_app_r rfl
  have e2 : (U ++ x :: (V ++ y :: W)).getD (U.length + 1 + V.length) 0 = y := by
    rw [show U ++ x :: (V ++ y :: W) = (U ++ x :: V) ++ y :: W by simp]
    exact getD_app_r (by simp; omega)
  unfold lsw
  rw [e1, e2]
  rw [List.set_append_right _ _ (Nat.le_refl _), Nat.sub_self, List.set_cons_zero, show U ++ y :: (V ++ y :: W) = (U ++ y :: V) ++ y :: W by simp, List.set_append_right _ _ (by simp; omega)]
  rw [show U.length + 1 + V.length - (U ++ y :: V).length = 0 by simp; omega, List.set_cons_zero]
  simp
theorem lsw_app' {U W : List Int} {x y : Int} {i j : Nat} (hi : i = U.length + 1) (hj : j = U.length) : lsw (U ++ x :: y :: W) i j = U ++ y :: x :: W := by
  subst hi hj
  have e1 : (U ++ x :: y :: W).getD U.length 0 = x := getD_app_r rfl
  have e2 : (U ++ x :: y :: W).getD (U.length + 1) 0 = y := by
    rw [show U ++ x :: y :: W = (U ++ [x]) ++ y :: W by simp]
    exact getD_app_r (by simp)
  unfold lsw
  rw [e1, e2, show U ++ x :: y :: W = (U ++ [x]) ++ y :: W by simp, List.set_append_right _ _ (by simp), show U.length + 1 - (U ++ [x]).length = 0 by simp, List.set_cons_zero,
    show (U ++ [x]) ++ x :: W = U ++ x :: x :: W by simp, List.set_append_right _ _ (Nat.le_refl _), Nat.sub_self, List.set_cons_zero]
theorem swR_app : ∀ (m : Nat) (A X M Y C : List Int), X.length = m → Y.length = m → swR (A ++ (X ++ (M ++ (Y ++ C)))) A.length (A.length + m + M.length) m = A ++ (Y ++ (M ++ (X ++ C)))
  | 0, A, X, M, Y, C, hx, hy => by
    rw [List.length_eq_zero_iff.1 hx, List.length_eq_zero_iff.1 hy]; rfl
  | m + 1, A, X, M, Y, C, hx, hy => by
    obtain ⟨X', x, rfl⟩ : ∃ X' x, X = X' ++ [x] := ⟨X.dropLast, X.getLast (fun e => by subst e; cases hx), (List.dropLast_concat_getLast _).symm⟩
    obtain ⟨Y', y, rfl⟩ : ∃ Y' y, Y = Y' ++ [y] := ⟨Y.dropLast, Y.getLast (fun e => by subst e; cases hy), (List.dropLast_concat_getLast _).symm⟩
    have hx' : X'.length = m := by simpa using hx
    have hy' : Y'.length = m := by simpa using hy
    have ih := swR_app m A X' (x :: M) Y' (y :: C) hx' hy'
    rw [swR]
    have e0 : A ++ (X' ++ [x] ++ (M ++ (Y' ++ [y] ++ C))) = A ++ (X' ++ (x :: M ++ (Y' ++ y :: C))) := by simp
    rw [e0, show A.length + (m + 1) + M.length = A.length + m + (x :: M).length by simp; omega, ih]
    have := lsw_app (U := A ++ Y') (V := M ++ X') (W := C) (x := x) (y := y) (i := A.length + m) (j := A.length + m + (x :: M).length + m) (by simp; omega) (by simp; omega)
    rw [show A ++ (Y' ++ (x :: M ++ (X' ++ y :: C))) = (A ++ Y') ++ x :: ((M ++ X') ++ y :: C) by simp, this]
    simp
theorem rotF_app : ∀ (f : Nat) (A X Y C : List Int) (m i j : Nat), i = X.length → j = Y.length → m = A.length + i → 1 ≤ i → 1 ≤ j → i + j ≤ f → rotF m f i j (A ++ (X ++ (Y ++ C))) = A ++ (Y ++ (X ++ C))
  | 0, A, X, Y, C, m, i, j, hi, hj, hm, i1, j1, hf => by omega
  | f + 1, A, X, Y, C, m, i, j, hi, hj, hm, i1, j1, hf => by
    rw [rotF]
    by_cases c : i = j
    · rw [if_pos c]
      have := swR_app i A X [] Y C hi.symm (by omega)
      rw [List.length_nil, Nat.add_zero, ← hm] at this
      rw [show m - i = A.length by omega]
      exact this
    rw [if_neg c]
    by_cases c2 : j < i
    · rw [if_pos c2]
      obtain ⟨X1, X2, rfl, hx1⟩ : ∃ X1 X2, X = X1 ++ X2 ∧ X1.length = j := ⟨X.take j, X.drop j, (List.take_append_drop j X).symm, by rw [List.length_take]; omega⟩
      have hx2 : X2.length = i - j := by rw [List.length_append] at hi; omega
      have := swR_app j A X1 X2 Y C hx1 hj.symm
      rw [show A.length + j + X2.length = m by omega] at this
      rw [show m - i = A.length by omega, show A ++ (X1 ++ X2 ++ (Y ++ C)) = A ++ (X1 ++ (X2 ++ (Y ++ C))) by simp, this]
      have ih := rotF_app f (A ++ Y) X2 X1 C m (i - j) j hx2.symm hx1.symm (by rw [List.length_append]; omega) (by omega) j1 (by omega)
      rw [show A ++ (Y ++ (X2 ++ (X1 ++ C))) = (A ++ Y) ++ (X2 ++ (X1 ++ C)) by simp, ih]; simp
    · rw [if_neg c2]
      obtain ⟨Y1, Y2, rfl, hy1⟩ : ∃ Y1 Y2, Y = Y1 ++ Y2 ∧ Y1.length = j - i := ⟨Y.take (j - i), Y.drop (j - i), (List.take_append_drop _ Y).symm, by rw [List.length_take]; omega⟩
      have hy2 : Y2.length = i := by rw [List.length_append] at hj; omega
      have := swR_app i A X Y1 Y2 C hi.symm hy2
      rw [show A.length + i + Y1.length = m + j - i by omega] at this
      rw [show m - i = A.length by omega, show A ++ (X ++ (Y1 ++ Y2 ++ C)) = A ++ (X ++ (Y1 ++ (Y2 ++ C))) by simp, this]
      have ih := rotF_app f A Y2 Y1 (X ++ C) m i (j - i) hy2.symm hy1.symm hm i1 (by omega) (by omega)
      rw [ih]; simp
theorem bubU_app : ∀ (n : Nat) (A R C : List Int) (u : Int), R.length = n → bubU (A ++ u :: (R ++ C)) A.length n = A ++ (R ++ u :: C)
  | 0, A, R, C, u, h => by rw [List.length_eq_zero_iff.1 h]; rfl
  | n + 1, A, R, C, u, h => by
    obtain ⟨R', r, rfl⟩ : ∃ R' r, R = R' ++ [r] := ⟨R.dropLast, R.getLast (fun e => by subst e; cases h), (List.dropLast_concat_getLast _).symm⟩
    have h' : R'.length = n := by simpa using h
    have ih := bubU_app n A R' (r :: C) u h'
    rw [bubU, show A ++ u :: (R' ++ [r] ++ C) = A ++ u :: (R' ++ r :: C) by simp, ih]
    have := lsw_app (U := A ++ R') (V := []) (W := C) (x := u) (y := r) (i := A.length + n) (j := A.length + n + 1) (by simp; omega) (by simp; omega)
    rw [show A ++ (R' ++ u :: r :: C) = (A ++ R') ++ u :: ([] ++ r :: C) by simp, this]; simp
theorem bubD_app : ∀ (n : Nat) (A P C : List Int) (v : Int) (m : Nat), P.length = n → m = A.length + n → bubD (A ++ (P ++ v :: C)) m n = A ++ v :: (P ++ C)
  | 0, A, P, C, v, m, h, hm => by rw [List.length_eq_zero_iff.1 h]; rfl
  | n + 1, A, P, C, v, m, h, hm => by
    cases P with
    | nil => cases h
    | cons p P =>
      have h' : P.length = n := by simpa using h
      have ih := bubD_app n (A ++ [p]) P C v m h' (by simp; omega)
      rw [bubD, show A ++ (p :: P ++ v :: C) = (A ++ [p]) ++ (P ++ v :: C) by simp, ih]
      have := lsw_app' (U := A) (W := P ++ C) (x := p) (y := v) (i := m - n) (j := m - n - 1) (by omega) (by omega)
      rw [show A ++ [p] ++ v :: (P ++ C) = A ++ p :: v :: (P ++ C) by simp, this]; simp
theorem bisF_spec {p : Nat → Bool} : ∀ (f i j : Nat), i ≤ j → j - i ≤ f → (∀ x y, i ≤ x → x ≤ y → y < j → p y = true → p x = true) → (∀ x, i ≤ x → x < bisF p f i j → p x = true) ∧ ∀ x, bisF p f i j ≤ x → x < j → p x = false
  | 0, i, j, h, hf, hm => ⟨fun x h1 h2 => by rw [bisF] at h2; omega, fun x h1 h2 => by rw [bisF] at h1; omega⟩
  | f + 1, i, j, h, hf, hm => by
    rw [bisF]
    by_cases c : i < j
    · rw [if_pos c]
      by_cases c2 : p ((i + j) / 2) = true
      · rw [if_pos c2]
        obtain ⟨g1, g2⟩ := bisF_spec (p := p) f ((i + j) / 2 + 1) j (by omega) (by omega) (fun x y h1 h2 h3 h4 => hm x y (by omega) h2 h3 h4)
        refine ⟨fun x h1 h2 => ?_, g2⟩
        by_cases c3 : x ≤ (i + j) / 2
        · exact hm x _ h1 c3 (by omega) c2
        · exact g1 x (by omega) h2
      · rw [if_neg c2]
        obtain ⟨g1, g2⟩ := bisF_spec (p := p) f i ((i + j) / 2) (by omega) (by omega) (fun x y h1 h2 h3 h4 => hm x y h1 h2 (by omega) h4)
        refine ⟨g1, fun x h1 h2 => ?_⟩
        by_cases c3 : x < (i + j) / 2
        · exact g2 x h1 c3
        · cases hp : p x with
          | false => rfl
          | true => exact absurd (hm _ x (by omega) (by omega) h2 hp) c2
    · rw [if_neg c]
      exact ⟨fun x h1 h2 => by omega, fun x h1 h2 => by omega⟩
section
variable (K : Int → Int)
def Lx (x y : Int) : Prop := K x < K y ∨ (K x = K y ∧ x < y)
def lK (x y : Int) : Bool := decide (K x < K y)
variable {K}
theorem Lx.trans {x y z : Int} (h : Lx K x y) (h' : Lx K y z) : Lx K x z := by unfold Lx at *; omega
theorem lK_lt {u v : Int} (h : u < v) : lK K v u = true ↔ Lx K v u := by unfold lK Lx; rw [decide_eq_true_eq]; omega
theorem lK_ge {u v : Int} (h : u < v) : lK K v u = false ↔ Lx K u v := by unfold lK Lx; rw [decide_eq_false_iff_not]; omega
theorem pw_mid {P R : List Int} : (P ++ R).Pairwise (Lx K) ↔ P.Pairwise (Lx K) ∧ R.Pairwise (Lx K) ∧ ∀ x ∈ P, ∀ y ∈ R, Lx K x y := List.pairwise_append
theorem insJ_app : ∀ (n : Nat) (A P B : List Int) (v : Int), P.length = n → P.Pairwise (Lx K) → (∀ u ∈ P, u < v) → ∃ M, insJ (lK K) A.length (A.length + n) (A ++ (P ++ v :: B)) = A ++ (M ++ B) ∧ M.Perm (P ++ [v]) ∧ M.Pairwise (Lx K)
  | 0, A, P, B, v, h, hs, hv => by
    rw [List.length_eq_zero_iff.1 h]
    refine ⟨[v], ?_, .refl _, List.pairwise_singleton _ _⟩
    rw [Nat.add_zero]
    have : insJ (lK K) A.length A.length (A ++ ([] ++ v :: B)) = A ++ ([] ++ v :: B) := by
      cases hl : A.length with
      | zero => rw [insJ]
      | succ k =>
        rw [insJ, if_neg (by simp)]
    rw [this]; rfl
  | n + 1, A, P, B, v, h, hs, hv => by
    obtain ⟨P', u, rfl⟩ : ∃ P' u, P = P' ++ [u] := ⟨P.dropLast, P.getLast (fun e => by subst e; cases h), (List.dropLast_concat_getLast _).symm⟩
    have h' : P'.length = n := by simpa using h
    obtain ⟨s1, s2, s3⟩ := pw_mid.1 hs
    have huv : u < v := hv u (by simp)
    have e1 : (A ++ (P' ++ [u] ++ v :: B)).getD (A.length + n + 1) 0 = v := by
      rw [show A ++ (P' ++ [u] ++ v :: B) = (A ++ P' ++ [u]) ++ v :: B by simp]; exact getD_app_r (by simp; omega)
    have e2 : (A ++ (P' ++ [u] ++ v :: B)).getD (A.length + n) 0 = u := by
      rw [show A ++ (P' ++ [u] ++ v :: B) = (A ++ P') ++ u :: v :: B by simp]; exact getD_app_r (by simp; omega)
    rw [← Nat.add_assoc, insJ, e1, e2, decide_eq_true (show A.length < A.length + n + 1 by omega), Bool.true_and]
    by_cases c : lK K v u = true
    · rw [if_pos c]
      have hl := lsw_app' (U := A ++ P') (W := B) (x := u) (y := v) (i := A.length + n + 1) (j := A.length + n) (by simp; omega) (by simp; omega)
      rw [show A ++ (P' ++ [u] ++ v :: B) = (A ++ P') ++ u :: v :: B by simp, hl]
      obtain ⟨M, m1, m2, m3⟩ := insJ_app n A P' (u :: B) v h' s1 (fun x hx => hv x (by simp [hx]))
      refine ⟨M ++ [u], ?_, ?_, pw_mid.2 ⟨m3, List.pairwise_singleton _ _, fun x hx y hy => ?_⟩⟩
      · rw [show (A ++ P') ++ v :: u :: B = A ++ (P' ++ v :: u :: B) by simp, m1]; simp
      · refine (m2.append_right [u]).trans ?_
        rw [List.append_assoc, List.append_assoc]
        exact List.Perm.append_left P' (List.Perm.swap u v [])
      · rw [List.mem_singleton] at hy
        subst hy
        rcases List.mem_append.1 (m2.mem_iff.1 hx) with hx | hx
        · exact s3 x hx y (by simp)
        · rw [List.mem_singleton] at hx; subst hx; exact (lK_lt huv).1 c
    · rw [if_neg c]
      have c' : lK K v u = false := by simpa using c
      refine ⟨P' ++ [u] ++ [v], by simp, .refl _, pw_mid.2 ⟨hs, List.pairwise_singleton _ _, fun x hx y hy => ?_⟩⟩
      rw [List.mem_singleton] at hy
      subst hy
      have := (lK_ge huv).1 c'
      rcases List.mem_append.1 hx with hx | hx
      · exact (s3 x hx u (by simp)).trans this
      · rw [List.mem_singleton] at hx; subst hx; exact this
theorem insO_app : ∀ (c : Nat) (A P : List Int) (B : List Int), P.length = c + 1 → P.Pairwise (· < ·) → ∃ M, insO (lK K) A.length c (A ++ (P ++ B)) = A ++ (M ++ B) ∧ M.Perm P ∧ M.Pairwise (Lx K)
  | 0, A, P, B, h, hp => by
    obtain ⟨x, rfl⟩ : ∃ x, P = [x] := List.length_eq_one_iff.1 h
    exact ⟨[x], rfl, .refl _, List.pairwise_singleton _ _⟩
  | c + 1, A, P, B, h, hp => by
    obtain ⟨P', v, rfl⟩ : ∃ P' v, P = P' ++ [v] := ⟨P.dropLast, P.getLast (fun e => by subst e; cases h), (List.dropLast_concat_getLast _).symm⟩
    obtain ⟨q1, q2, q3⟩ := List.pairwise_append.1 hp
    obtain ⟨M, m1, m2, m3⟩ := insO_app c A P' (v :: B) (by simpa using h) q1
    obtain ⟨N, n1, n2, n3⟩ := insJ_app (K := K) (c + 1) A M B v (by rw [m2.length_eq]; simpa using h) m3 (fun u hu => q3 u (m2.mem_iff.1 hu) v (by simp))
    refine ⟨N, ?_, n2.trans (m2.append_right [v]), n3⟩
    rw [insO, show A ++ (P' ++ [v] ++ B) = A ++ (P' ++ v :: B) by simp, m1, show A.length + 1 + c = A.length + (c + 1) by omega, n1]
theorem pw_at {xs : List Int} (h : xs.Pairwise (Lx K)) {i j : Nat} (hij : i < j) (hj : j < xs.length) : Lx K (xs.getD i 0) (xs.getD j 0) := by
  have e1 : xs.getD i 0 = xs[i] := by simp [List.getD, show i < xs.length by omega]
  have e2 : xs.getD j 0 = xs[j] := by simp [List.getD, hj]
  rw [e1, e2]
  exact List.pairwise_iff_getElem.1 h i j (by omega) hj hij
theorem getD_mid {A P B : List Int} {i : Nat} (h1 : A.length ≤ i) (h2 : i < A.length + P.length) : (A ++ (P ++ B)).getD i 0 = P.getD (i - A.length) 0 := by
  simp only [List.getD]
  rw [List.getElem?_append_right h1, List.getElem?_append_left (by omega)]
theorem getD_mem {P : List Int} {i : Nat} (h : i < P.length) : P.getD i 0 ∈ P := by
  have e1 : P.getD i 0 = P[i] := by simp [List.getD, h]
  rw [e1]; exact List.getElem_mem h
theorem mem_getD {P : List Int} {x : Int} (h : x ∈ P) : ∃ i, i < P.length ∧ P.getD i 0 = x := by
  obtain ⟨i, hi, rfl⟩ := List.getElem_of_mem h
  exact ⟨i, hi, by simp [List.getD, hi]⟩
theorem symF_left (A P R B : List Int) (a m b : Nat) (ha : a = A.length) (hm : m = a + P.length) (hb : b = m + R.length) (p1 : 1 ≤ P.length) (r1 : 1 ≤ R.length) (hP : P.Pairwise (Lx K)) (hR : R.Pairwise (Lx K)) (hPR : ∀ u ∈ P, ∀ v ∈ R, u < v) (k1 : m = a + 1) : ∃ M, bubU (A ++ (P ++ (R ++ B))) a (bisF (fun h => lK K ((A ++ (P ++ (R ++ B))).getD h 0) ((A ++ (P ++ (R ++ B))).getD a 0)) (b - m) m b - 1 - a) = A ++ (M ++ B) ∧ M.Perm (P ++ R) ∧ M.Pairwise (Lx K) := by
  have gP : ∀ k, a ≤ k → k < m → (A ++ (P ++ (R ++ B))).getD k 0 = P.getD (k - a) 0 := fun k h1 h2 => by rw [getD_mid (by omega) (by omega), ha]
  have gR : ∀ k, m ≤ k → k < b → (A ++ (P ++ (R ++ B))).getD k 0 = R.getD (k - m) 0 := fun k h1 h2 => by
    rw [show A ++ (P ++ (R ++ B)) = (A ++ P) ++ (R ++ B) by simp, getD_mid (by rw [List.length_append]; omega) (by rw [List.length_append]; omega), List.length_append, show A.length + P.length = m by omega]
  obtain ⟨u, rfl⟩ : ∃ u, P = [u] := List.length_eq_one_iff.1 (by omega)
  have hu : (A ++ ([u] ++ (R ++ B))).getD a 0 = u := by rw [gP a (Nat.le_refl _) (by omega), Nat.sub_self]; rfl
  have hmono : ∀ x y, m ≤ x → x ≤ y → y < b → lK K ((A ++ ([u] ++ (R ++ B))).getD y 0) ((A ++ ([u] ++ (R ++ B))).getD a 0) = true → lK K ((A ++ ([u] ++ (R ++ B))).getD x 0) ((A ++ ([u] ++ (R ++ B))).getD a 0) = true := fun x y h1 h2 h3 h4 => by
    rw [hu, gR _ (by omega) h3] at h4
    rw [hu, gR _ h1 (by omega)]
    have hy := hPR u (by simp) _ (getD_mem (P := R) (i := y - m) (by omega))
    have hx := hPR u (by simp) _ (getD_mem (P := R) (i := x - m) (by omega))
    rw [lK_lt hy] at h4
    rw [lK_lt hx]
    by_cases e : x = y
    · subst e; exact h4
    · exact (pw_at hR (show x - m < y - m by omega) (by omega)).trans h4
  have hin := bisF_in (fun h => lK K ((A ++ ([u] ++ (R ++ B))).getD h 0) ((A ++ ([u] ++ (R ++ B))).getD a 0)) (b - m) m b (by omega)
  obtain ⟨g1, g2⟩ := bisF_spec (p := fun h => lK K ((A ++ ([u] ++ (R ++ B))).getD h 0) ((A ++ ([u] ++ (R ++ B))).getD a 0)) (b - m) m b (by omega) (Nat.le_refl _) hmono
  generalize bisF (fun h => lK K ((A ++ ([u] ++ (R ++ B))).getD h 0) ((A ++ ([u] ++ (R ++ B))).getD a 0)) (b - m) m b = q at *
  obtain ⟨R1, R2, rfl, hr1⟩ : ∃ R1 R2, R = R1 ++ R2 ∧ R1.length = q - m := ⟨R.take (q - m), R.drop (q - m), (List.take_append_drop _ R).symm, by rw [List.length_take]; omega⟩
  have hb1 := bubU_app (q - 1 - a) A R1 (R2 ++ B) u (by omega)
  rw [← ha] at hb1
  refine ⟨R1 ++ u :: R2, ?_, ?_, ?_⟩
  · rw [show A ++ ([u] ++ (R1 ++ R2 ++ B)) = A ++ u :: (R1 ++ (R2 ++ B)) by simp, hb1]; simp
  · rw [show [u] ++ (R1 ++ R2) = u :: (R1 ++ R2) by simp]; exact List.perm_middle
  · obtain ⟨s1, s2, s3⟩ := pw_mid.1 hR
    rw [List.length_append] at hb
    refine pw_mid.2 ⟨s1, List.pairwise_cons.2 ⟨fun y hy => ?_, s2⟩, fun x hx y hy => ?_⟩
    · obtain ⟨i, hi, rfl⟩ := mem_getD hy
      have h0 := g2 (q + i) (by omega) (by omega)
      rw [hu, gR _ (by omega) (by omega)] at h0
      have e : (R1 ++ R2).getD (q + i - m) 0 = R2.getD i 0 := by simp only [List.getD]; rw [List.getElem?_append_right (by omega), show q + i - m - R1.length = i by omega]
      rw [e] at h0
      exact (lK_ge (hPR u (by simp) _ (List.mem_append_right _ hy))).1 h0
    · have hxu : Lx K x u := by
        obtain ⟨i, hi, rfl⟩ := mem_getD hx
        have h0 := g1 (m + i) (by omega) (by omega)
        rw [hu, gR _ (by omega) (by omega)] at h0
        have e : (R1 ++ R2).getD (m + i - m) 0 = R1.getD i 0 := by simp only [List.getD]; rw [show m + i - m = i by omega, List.getElem?_append_left hi]
        rw [e] at h0
        exact (lK_lt (hPR u (by simp) _ (List.mem_append_left _ hx))).1 h0
      rcases List.mem_cons.1 hy with rfl | hy
      · exact hxu
      · exact s3 x hx y hy
theorem symF_right (A P R B : List Int) (a m b : Nat) (ha : a = A.length) (hm : m = a + P.length) (hb : b = m + R.length) (p1 : 1 ≤ P.length) (r1 : 1 ≤ R.length) (hP : P.Pairwise (Lx K)) (hR : R.Pairwise (Lx K)) (hPR : ∀ u ∈ P, ∀ v ∈ R, u < v) (k2 : b = m + 1) : ∃ M, bubD (A ++ (P ++ (R ++ B))) m (m - bisF (fun h => !lK K ((A ++ (P ++ (R ++ B))).getD m 0) ((A ++ (P ++ (R ++ B))).getD h 0)) (m - a) a m) = A ++ (M ++ B) ∧ M.Perm (P ++ R) ∧ M.Pairwise (Lx K) := by
  have gP : ∀ k, a ≤ k → k < m → (A ++ (P ++ (R ++ B))).getD k 0 = P.getD (k - a) 0 := fun k h1 h2 => by rw [getD_mid (by omega) (by omega), ha]
  have gR : ∀ k, m ≤ k → k < b → (A ++ (P ++ (R ++ B))).getD k 0 = R.getD (k - m) 0 := fun k h1 h2 => by
    rw [show A ++ (P ++ (R ++ B)) = (A ++ P) ++ (R ++ B) by simp, getD_mid (by rw [List.length_append]; omega) (by rw [List.length_append]; omega), List.length_append, show A.length + P.length = m by omega]
  obtain ⟨v, rfl⟩ : ∃ v, R = [v] := List.length_eq_one_iff.1 (by omega)
  have hv : (A ++ (P ++ ([v] ++ B))).getD m 0 = v := by rw [gR m (Nat.le_refl _) (by omega), Nat.sub_self]; rfl
  have hmono : ∀ x y, a ≤ x → x ≤ y → y < m → (!lK K ((A ++ (P ++ ([v] ++ B))).getD m 0) ((A ++ (P ++ ([v] ++ B))).getD y 0)) = true → (!lK K ((A ++ (P ++ ([v] ++ B))).getD m 0) ((A ++ (P ++ ([v] ++ B))).getD x 0)) = true := fun x y h1 h2 h3 h4 => by
    rw [hv, gP _ (by omega) h3, Bool.not_eq_true'] at h4
    rw [hv, gP _ h1 (by omega), Bool.not_eq_true']
    have hy := hPR _ (getD_mem (P := P) (i := y - a) (by omega)) v (by simp)
    have hx := hPR _ (getD_mem (P := P) (i := x - a) (by omega)) v (by simp)
    rw [lK_ge hy] at h4
    rw [lK_ge hx]
    by_cases e : x = y
    · subst e; exact h4
    · exact (pw_at hP (show x - a < y - a by omega) (by omega)).trans h4
  have hin := bisF_in (fun h => !lK K ((A ++ (P ++ ([v] ++ B))).getD m 0) ((A ++ (P ++ ([v] ++ B))).getD h 0)) (m - a) a m (by omega)
  obtain ⟨g1, g2⟩ := bisF_spec (p := fun h => !lK K ((A ++ (P ++ ([v] ++ B))).getD m 0) ((A ++ (P ++ ([v] ++ B))).getD h 0)) (m - a) a m (by omega) (Nat.le_refl _) hmono
  generalize bisF (fun h => !lK K ((A ++ (P ++ ([v] ++ B))).getD m 0) ((A ++ (P ++ ([v] ++ B))).getD h 0)) (m - a) a m = q at *
  obtain ⟨P1, P2, rfl, hp1⟩ : ∃ P1 P2, P = P1 ++ P2 ∧ P1.length = q - a := ⟨P.take (q - a), P.drop (q - a), (List.take_append_drop _ P).symm, by rw [List.length_take]; omega⟩
  rw [List.length_append] at hm
  have hb1 := bubD_app (m - q) (A ++ P1) P2 B v m (by omega) (by rw [List.length_append]; omega)
  refine ⟨P1 ++ v :: P2, ?_, ?_, ?_⟩
  · rw [show A ++ (P1 ++ P2 ++ ([v] ++ B)) = (A ++ P1) ++ (P2 ++ v :: B) by simp, hb1]; simp
  · rw [List.append_assoc]
    refine List.Perm.append_left P1 ?_
    have := (List.perm_append_comm (l₁ := [v]) (l₂ := P2))
    simpa using this
  · obtain ⟨s1, s2, s3⟩ := pw_mid.1 hP
    refine pw_mid.2 ⟨s1, List.pairwise_cons.2 ⟨fun y hy => ?_, s2⟩, fun x hx y hy => ?_⟩
    · obtain ⟨i, hi, rfl⟩ := mem_getD hy
      have h0 := g2 (q + i) (by omega) (by omega)
      rw [hv, gP _ (by omega) (by omega)] at h0
      have e : (P1 ++ P2).getD (q + i - a) 0 = P2.getD i 0 := by simp only [List.getD]; rw [List.getElem?_append_right (by omega), show q + i - a - P1.length = i by omega]
      rw [e, Bool.not_eq_false'] at h0
      exact (lK_lt (hPR _ (List.mem_append_right _ hy) v (by simp))).1 h0
    · rcases List.mem_cons.1 hy with rfl | hy
      · obtain ⟨i, hi, rfl⟩ := mem_getD hx
        have h0 := g1 (a + i) (by omega) (by omega)
        rw [hv, gP _ (by omega) (by omega)] at h0
        have e : (P1 ++ P2).getD (a + i - a) 0 = P1.getD i 0 := by simp only [List.getD]; rw [show a + i - a = i by omega, List.getElem?_append_left hi]
        rw [e, Bool.not_eq_true'] at h0
        exact (lK_ge (hPR _ (List.mem_append_left _ hx) y (by simp))).1 h0
      · exact s3 x hx y hy
set_option maxHeartbeats 4000000 in
theorem symF_app : ∀ (f : Nat) (A P R B : List Int) (a m b : Nat), a = A.length → m = a + P.length → b = m + R.length → 1 ≤ P.length → 1 ≤ R.length → b - a ≤ f → P.Pairwise (Lx K) → R.Pairwise (Lx K) → (∀ u ∈ P, ∀ v ∈ R, u < v) →
    ∃ M, symF (lK K) f a m b (A ++ (P ++ (R ++ B))) = A ++ (M ++ B) ∧ M.Perm (P ++ R) ∧ M.Pairwise (Lx K)
  | 0, A, P, R, B, a, m, b, ha, hm, hb, p1, r1, hf, hP, hR, hPR => by omega
  | f + 1, A, P, R, B, a, m, b, ha, hm, hb, p1, r1, hf, hP, hR, hPR => by
    rw [symF]
    have gP : ∀ k, a ≤ k → k < m → (A ++ (P ++ (R ++ B))).getD k 0 = P.getD (k - a) 0 := fun k h1 h2 => by rw [getD_mid (by omega) (by omega), ha]
    have gR : ∀ k, m ≤ k → k < b → (A ++ (P ++ (R ++ B))).getD k 0 = R.getD (k - m) 0 := fun k h1 h2 => by
      rw [show A ++ (P ++ (R ++ B)) = (A ++ P) ++ (R ++ B) by simp, getD_mid (by rw [List.length_append]; omega) (by rw [List.length_append]; omega), List.length_append, show A.length + P.length = m by omega]
    by_cases k1 : m = a + 1
    · rw [if_pos k1]; exact symF_left A P R B a m b ha hm hb p1 r1 hP hR hPR k1
    rw [if_neg k1]
    by_cases k2 : b = m + 1
    · rw [if_pos k2]; exact symF_right A P R B a m b ha hm hb p1 r1 hP hR hPR k2
    rw [if_neg k2]
    -- the middle is found
    have hsi := symS_in (lt := lK K) (xs := A ++ (P ++ (R ++ B))) (a := a) (m := m) (b := b) (by omega) (by omega)
    have hXd : symX (lK K) a m b (A ++ (P ++ (R ++ B))) = if (decide (symS (lK K) a m b (A ++ (P ++ (R ++ B))) < m) && decide (m < (a + b) / 2 + m - symS (lK K) a m b (A ++ (P ++ (R ++ B))))) = true then rotF m ((a + b) / 2 + m - symS (lK K) a m b (A ++ (P ++ (R ++ B))) - symS (lK K) a m b (A ++ (P ++ (R ++ B)))) (m - symS (lK K) a m b (A ++ (P ++ (R ++ B)))) ((a + b) / 2 + m - symS (lK K) a m b (A ++ (P ++ (R ++ B))) - m) (A ++ (P ++ (R ++ B))) else (A ++ (P ++ (R ++ B))) := rfl
    have hS : symS (lK K) a m b (A ++ (P ++ (R ++ B))) = bisF (fun c => !lK K ((A ++ (P ++ (R ++ B))).getD ((a + b) / 2 + m - 1 - c) 0) ((A ++ (P ++ (R ++ B))).getD c 0)) ((if (a + b) / 2 < m then (a + b) / 2 else m) - (if (a + b) / 2 < m then (a + b) / 2 + m - b else a)) (if (a + b) / 2 < m then (a + b) / 2 + m - b else a) (if (a + b) / 2 < m then (a + b) / 2 else m) := rfl
    generalize symX (lK K) a m b (A ++ (P ++ (R ++ B))) = X at *
    generalize symS (lK K) a m b (A ++ (P ++ (R ++ B))) = s at *
    have hdl : a < (a + b) / 2 ∧ (a + b) / 2 < b ∧ (a + b) / 2 * 2 ≤ a + b ∧ a + b ≤ (a + b) / 2 * 2 + 1 := by omega
    generalize (a + b) / 2 = d at *
    obtain ⟨s0, hs0⟩ : ∃ s0, (if d < m then d + m - b else a) = s0 := ⟨_, rfl⟩
    obtain ⟨r0, hr0⟩ : ∃ r0, (if d < m then d else m) = r0 := ⟨_, rfl⟩
    have key : a ≤ s0 ∧ s0 ≤ r0 ∧ r0 ≤ m ∧ r0 ≤ d ∧ d + m ≤ b + s0 ∧ (d + m = b + s0 ∨ s0 = a) ∧ (r0 = d ∨ r0 = m) := by split at hs0 <;> split at hr0 <;> omega
    rw [hs0, hr0] at hS
    obtain ⟨q1, q2, q3, q4, q5, q6, q7⟩ := key
    have hmono : ∀ x y, s0 ≤ x → x ≤ y → y < r0 → (!lK K ((A ++ (P ++ (R ++ B))).getD (d + m - 1 - y) 0) ((A ++ (P ++ (R ++ B))).getD y 0)) = true → (!lK K ((A ++ (P ++ (R ++ B))).getD (d + m - 1 - x) 0) ((A ++ (P ++ (R ++ B))).getD x 0)) = true := fun x y h1 h2 h3 h4 => by
      rw [gR _ (by omega) (by omega), gP _ (by omega) (by omega), Bool.not_eq_true'] at h4
      rw [gR _ (by omega) (by omega), gP _ (by omega) (by omega), Bool.not_eq_true']
      have hy := hPR _ (getD_mem (P := P) (i := y - a) (by omega)) _ (getD_mem (P := R) (i := d + m - 1 - y - m) (by omega))
      have hx := hPR _ (getD_mem (P := P) (i := x - a) (by omega)) _ (getD_mem (P := R) (i := d + m - 1 - x - m) (by omega))
      rw [lK_ge hy] at h4
      rw [lK_ge hx]
      by_cases e : x = y
      · subst e; exact h4
      · exact ((pw_at hP (show x - a < y - a by omega) (by omega)).trans h4).trans (pw_at hR (show d + m - 1 - y - m < d + m - 1 - x - m by omega) (by omega))
    have hin := bisF_in (fun c => !lK K ((A ++ (P ++ (R ++ B))).getD (d + m - 1 - c) 0) ((A ++ (P ++ (R ++ B))).getD c 0)) (r0 - s0) s0 r0 q2
    obtain ⟨g1, g2⟩ := bisF_spec (p := fun c => !lK K ((A ++ (P ++ (R ++ B))).getD (d + m - 1 - c) 0) ((A ++ (P ++ (R ++ B))).getD c 0)) (r0 - s0) s0 r0 q2 (Nat.le_refl _) hmono
    rw [← hS] at hin g1 g2
    obtain ⟨e, he⟩ : ∃ e, d + m - s = e := ⟨_, rfl⟩
    rw [he] at hsi hXd ⊢
    -- what lies before the middle is less than what lies behind
    have c1 : s0 < s → Lx K (P.getD (s - 1 - a) 0) (R.getD (e - m) 0) := fun h => by
      have h0 := g1 (s - 1) (by omega) (by omega)
      rw [gR _ (by omega) (by omega), gP _ (by omega) (by omega), Bool.not_eq_true', show d + m - 1 - (s - 1) - m = e - m by omega] at h0
      exact (lK_ge (hPR _ (getD_mem (by omega)) _ (getD_mem (by omega)))).1 h0
    have c2 : s < r0 → Lx K (R.getD (e - 1 - m) 0) (P.getD (s - a) 0) := fun h => by
      have h0 := g2 s (Nat.le_refl _) h
      rw [gR _ (by omega) (by omega), gP _ (by omega) (by omega), Bool.not_eq_false', show d + m - 1 - s - m = e - 1 - m by omega] at h0
      exact (lK_lt (hPR _ (getD_mem (by omega)) _ (getD_mem (by omega)))).1 h0
    obtain ⟨P1, P2, hPe, hp1⟩ : ∃ P1 P2, P = P1 ++ P2 ∧ P1.length = s - a := ⟨P.take (s - a), P.drop (s - a), (List.take_append_drop _ P).symm, by rw [List.length_take]; omega⟩
    obtain ⟨R1, R2, hRe, hr1⟩ : ∃ R1 R2, R = R1 ++ R2 ∧ R1.length = e - m := ⟨R.take (e - m), R.drop (e - m), (List.take_append_drop _ R).symm, by rw [List.length_take]; omega⟩
    have hp2 : P2.length = m - s := by have := congrArg List.length hPe; rw [List.length_append] at this; omega
    have hr2 : R2.length = b - e := by have := congrArg List.length hRe; rw [List.length_append] at this; omega
    have hX : X = A ++ (P1 ++ (R1 ++ (P2 ++ (R2 ++ B)))) := by
      rw [hXd]
      by_cases c : s < m ∧ m < e
      · rw [if_pos (by simp; omega)]
        have := rotF_app (e - s) (A ++ P1) P2 R1 (R2 ++ B) m (m - s) (e - m) (by omega) (by omega) (by rw [List.length_append]; omega) (by omega) (by omega) (by omega)
        rw [hPe, hRe, show A ++ (P1 ++ P2 ++ (R1 ++ R2 ++ B)) = (A ++ P1) ++ (P2 ++ (R1 ++ (R2 ++ B))) by simp, this]; simp
      · rw [if_neg (by simp; omega), hPe, hRe]
        by_cases c3 : s < m
        · have : R1 = [] := List.length_eq_zero_iff.1 (by omega)
          rw [this]; simp
        · have : P2 = [] := List.length_eq_zero_iff.1 (by omega)
          rw [this]; simp
    clear hXd
    subst hX
    rw [hPe] at hP
    rw [hRe] at hR
    obtain ⟨sp1, sp2, sp3⟩ := pw_mid.1 hP
    obtain ⟨sr1, sr2, sr3⟩ := pw_mid.1 hR
    have eP : ∀ i, i < P1.length → P.getD i 0 = P1.getD i 0 := fun i hi => by rw [hPe]; simp only [List.getD]; rw [List.getElem?_append_left hi]
    have eP2 : ∀ i, P.getD (P1.length + i) 0 = P2.getD i 0 := fun i => by rw [hPe]; simp only [List.getD]; rw [List.getElem?_append_right (by omega), Nat.add_sub_cancel_left]
    have eR : ∀ i, i < R1.length → R.getD i 0 = R1.getD i 0 := fun i hi => by rw [hRe]; simp only [List.getD]; rw [List.getElem?_append_left hi]
    have eR2 : ∀ i, R.getD (R1.length + i) 0 = R2.getD i 0 := fun i => by rw [hRe]; simp only [List.getD]; rw [List.getElem?_append_right (by omega), Nat.add_sub_cancel_left]
    have d1 : ∀ x ∈ P1, ∀ y ∈ R2, Lx K x y := fun x hx y hy => by
      obtain ⟨i, hi, rfl⟩ := mem_getD hx
      obtain ⟨j, hj, rfl⟩ := mem_getD hy
      have h := c1 (by omega)
      rw [eP _ (by omega), show e - m = R1.length + 0 by omega, eR2] at h
      have h1 : Lx K (P1.getD i 0) (R2.getD 0 0) := by
        by_cases ei : i = s - 1 - a
        · subst ei; exact h
        · exact (pw_at sp1 (show i < s - 1 - a by omega) (by omega)).trans h
      by_cases ej : j = 0
      · subst ej; exact h1
      · exact h1.trans (pw_at sr2 (show 0 < j by omega) hj)
    have d2 : ∀ x ∈ R1, ∀ y ∈ P2, Lx K x y := fun x hx y hy => by
      obtain ⟨i, hi, rfl⟩ := mem_getD hx
      obtain ⟨j, hj, rfl⟩ := mem_getD hy
      have h := c2 (by omega)
      rw [eR _ (by omega), show s - a = P1.length + 0 by omega, eP2] at h
      have h1 : Lx K (R1.getD i 0) (P2.getD 0 0) := by
        by_cases ei : i = e - 1 - m
        · subst ei; exact h
        · exact (pw_at sr1 (show i < e - 1 - m by omega) (by omega)).trans h
      by_cases ej : j = 0
      · subst ej; exact h1
      · exact h1.trans (pw_at sp2 (show 0 < j by omega) hj)
    have hPR1 : ∀ u ∈ P1, ∀ v ∈ R1, u < v := fun u hu v hv => hPR u (by rw [hPe]; simp [hu]) v (by rw [hRe]; simp [hv])
    have hPR2 : ∀ u ∈ P2, ∀ v ∈ R2, u < v := fun u hu v hv => hPR u (by rw [hPe]; simp [hu]) v (by rw [hRe]; simp [hv])
    -- the left part
    obtain ⟨M1, m1, m2, m3⟩ : ∃ M1, (if (decide (a < s) && decide (s < d)) = true then symF (lK K) f a s d (A ++ (P1 ++ (R1 ++ (P2 ++ (R2 ++ B))))) else A ++ (P1 ++ (R1 ++ (P2 ++ (R2 ++ B))))) = A ++ (M1 ++ (P2 ++ (R2 ++ B))) ∧ M1.Perm (P1 ++ R1) ∧ M1.Pairwise (Lx K) := by
      by_cases c : a < s ∧ s < d
      · rw [if_pos (by simp; omega)]
        exact symF_app f A P1 R1 (P2 ++ (R2 ++ B)) a s d ha (by omega) (by omega) (by omega) (by omega) (by omega) sp1 sr1 hPR1
      · rw [if_neg (by simp; omega)]
        refine ⟨P1 ++ R1, by simp, .refl _, pw_mid.2 ⟨sp1, sr1, fun x hx y hy => ?_⟩⟩
        have := List.length_pos_of_mem hx
        have := List.length_pos_of_mem hy
        omega
    rw [m1]
    have hM1 := m2.length_eq
    rw [List.length_append] at hM1
    obtain ⟨M2, n1, n2, n3⟩ : ∃ M2, (if (decide (d < e) && decide (e < b)) = true then symF (lK K) f d e b (A ++ (M1 ++ (P2 ++ (R2 ++ B)))) else A ++ (M1 ++ (P2 ++ (R2 ++ B)))) = A ++ (M1 ++ (M2 ++ B)) ∧ M2.Perm (P2 ++ R2) ∧ M2.Pairwise (Lx K) := by
      by_cases c : d < e ∧ e < b
      · rw [if_pos (by simp; omega)]
        obtain ⟨M, h1, h2, h3⟩ := symF_app f (A ++ M1) P2 R2 B d e b (by rw [List.length_append]; omega) (by omega) (by omega) (by omega) (by omega) (by omega) sp2 sr2 hPR2
        refine ⟨M, ?_, h2, h3⟩
        rw [show A ++ (M1 ++ (P2 ++ (R2 ++ B))) = (A ++ M1) ++ (P2 ++ (R2 ++ B)) by simp, h1]; simp
      · rw [if_neg (by simp; omega)]
        refine ⟨P2 ++ R2, by simp, .refl _, pw_mid.2 ⟨sp2, sr2, fun x hx y hy => ?_⟩⟩
        have := List.length_pos_of_mem hx
        have := List.length_pos_of_mem hy
        omega
    rw [n1]
    refine ⟨M1 ++ M2, by simp, ?_, pw_mid.2 ⟨m3, n3, fun x hx y hy => ?_⟩⟩
    · refine (m2.append n2).trans ?_
      rw [hPe, hRe, List.append_assoc, List.append_assoc]
      refine List.Perm.append_left P1 ?_
      rw [← List.append_assoc, ← List.append_assoc]
      exact List.Perm.append_right R2 List.perm_append_comm
    · rcases List.mem_append.1 (m2.mem_iff.1 hx) with hx | hx <;> rcases List.mem_append.1 (n2.mem_iff.1 hy) with hy | hy
      · exact sp3 x hx y hy
      · exact d1 x hx y hy
      · exact d2 x hx y hy
      · exact sr3 x hx y hy
theorem stF_sorted {xs : List Int} (h : xs.Pairwise (· < ·)) (h1 : 1 ≤ xs.length) : (stF (lK K) xs).Perm xs ∧ (stF (lK K) xs).Pairwise (Lx K) := by
  unfold stF
  by_cases c : xs.length < 20
  · rw [if_pos c]
    obtain ⟨M, m1, m2, m3⟩ := insO_app (K := K) (xs.length - 1) [] xs [] (by omega) h
    simp only [List.nil_append, List.append_nil, List.length_nil] at m1
    rw [m1]; exact ⟨m2, m3⟩
  rw [if_neg c]
  obtain ⟨P, R, rfl, hp⟩ : ∃ P R, xs = P ++ R ∧ P.length = 20 := ⟨xs.take 20, xs.drop 20, (List.take_append_drop _ xs).symm, by rw [List.length_take]; omega⟩
  obtain ⟨hP, hR, hPR⟩ := List.pairwise_append.1 h
  obtain ⟨M, m1, m2, m3⟩ := insO_app (K := K) 19 [] P R hp hP
  simp only [List.nil_append, List.length_nil] at m1
  rw [m1]
  by_cases c2 : (P ++ R).length = 20
  · have : R = [] := List.length_eq_zero_iff.1 (by rw [List.length_append] at c2; omega)
    rw [if_pos c2, this]
    show (M ++ []).Perm (P ++ []) ∧ (M ++ []).Pairwise (Lx K)
    simp only [List.append_nil]
    exact ⟨m2, m3⟩
  rw [if_neg c2]
  rw [List.length_append] at c2
  obtain ⟨N, n1, n2, n3⟩ := insO_app (K := K) (R.length - 1) M R [] (by omega) hR
  simp only [List.append_nil] at n1
  have hMl := m2.length_eq
  rw [List.length_append, show P.length + R.length - 21 = R.length - 1 by omega, show (20 : Nat) = M.length by omega, n1]
  obtain ⟨S, s1, s2, s3⟩ := symF_app (K := K) (P.length + R.length) [] M N [] 0 20 (P.length + R.length) rfl (by omega) (by rw [n2.length_eq]; omega) (by omega) (by rw [n2.length_eq]; omega) (by omega) m3 n3 (fun u hu v hv => hPR u (m2.mem_iff.1 hu) v (n2.mem_iff.1 hv))
  simp only [List.nil_append, List.append_nil] at s1
  rw [show M.length = 20 by omega, s1]
  exact ⟨s2.trans (m2.append n2), s3⟩
end
end Go.Proofs.Ytglfcaioapdiaaa.Bk
