/-
  What the law FnExactSpanningTree rests on, part 5.
-/
import Derived.Test.YtglfcaioapdiaaaZFnExactSpanningTree4
namespace Go.Proofs.Ytglfcaioapdiaaa.Bk
open Go
set_option linter.unusedSimpArgs false
set_option linter.unusedVariables false
theorem getD_app_r {U V : List Int} {x : Int} {k : Nat} (h : k = U.length) : (U ++ x :: V).getD k 0 = x := by
  subst h; simp [List.getD]
theorem lsw_app {U V W : List Int} {x y : Int} {i j : Nat} (hi : i = U.length) (hj : j = U.length + 1 + V.length) : lsw (U ++ x :: (V ++ y :: W)) i j = U ++ y :: (V ++ x :: W) := by
  subst hi hj
  have e1 : (U ++ x :: (V ++ y :: W)).getD U.length 0 = x := getD_app_r rfl
  have e2 : (U ++ x :: (V ++ y :: W)).getD (U.length + 1 + V.length) 0 = y := by
    rw [show U ++ x :: (V ++ y :: W) = (U ++ x :: V) ++ y :: W by simp]
    exact getD_app_r (by simp; omega)
  unfold lsw
  rw [e1, e2]
  rw [List.set_append_right _ _ (Nat.le_refl _), Nat.sub_self, List.set_cons_zero, show U ++ y :: (V ++ y :: W) = (U ++ y :: V) ++ y :: W by simp, List.set_append_right _ _ (by simp; omega)]
  rw [show U.length + 1 + V.length - (U ++ y :: V).length = 0 by simp; omega, List.set_cons_zero]
  simp
theorem lsw_app' {U W : List Int} {x y : Int} {i j : Nat} (hi : i = U.length + 1) (hj : j = U.length) : lsw (U ++ x :: y :: W) i j = U ++ y :: x :: W := by
  subst hi hj
  have e1 : (U ++ x :: y :: W).getD U.length 0 = x := getD_app_r rfl
  have e2 : (U ++ x :: y :: W).getD (U.length + 1) 0 = y := by
    rw [show U ++ x :: y :: W = (U ++ [x]) ++ y :: W by simp]
    exact getD_app_r (by simp)
  unfold lsw
  rw [e1, e2, show U ++ x :: y :: W = (U ++ [x]) ++ y :: W by simp, List.set_append_right _ _ (by simp), show U.length + 1 - (U ++ [x]).length = 0 by simp, List.set_cons_zero,
    show (U ++ [x]) ++ x :: W = U ++ x :: x :: W by simp, List.set_append_right _ _ (Nat.le_refl _), Nat.sub_self, List.set_cons_zero]
theorem swR_app : ∀ (m : Nat) (A X M Y C : List Int), X.length = m → Y.length = m → swR (A ++ (X ++ (M ++ (Y ++ C)))) A.length (A.length + m + M.length) m = A ++ (Y ++ (M ++ (X ++ C)))
  | 0, A, X, M, Y, C, hx, hy => by
    rw [List.length_eq_zero_iff.1 hx, List.length_eq_zero_iff.1 hy]; rfl
  | m + 1, A, X, M, Y, C, hx, hy => by
    obtain ⟨X', x, rfl⟩ : ∃ X' x, X = X' ++ [x] := ⟨X.dropLast, X.getLast (fun e => by subst e; cases hx), (List.dropLast_concat_getLast _).symm⟩
    obtain ⟨Y', y, rfl⟩ : ∃ Y' y, Y = Y' ++ [y] := ⟨Y.dropLast, Y.getLast (fun e => by subst e; cases hy), (List.dropLast_concat_getLast _).symm⟩
    have hx' : X'.length = m := by simpa using hx
    have hy' : Y'.length = m := by simpa using hy
    have ih := swR_app m A X' (x :: M) Y' (y :: C) hx' hy'
    rw [swR]
    have e0 : A ++ (X' ++ [x] ++ (M ++ (Y' ++ [y] ++ C))) = A ++ (X' ++ (x :: M ++ (Y' ++ y :: C))) := by simp
    rw [e0, show A.length + (m + 1) + M.length = A.length + m + (x :: M).length by simp; omega, ih]
    have := lsw_app (U := A ++ Y') (V := M ++ X') (W := C) (x := x) (y := y) (i := A.length + m) (j := A.length + m + (x :: M).length + m) (by simp; omega) (by simp; omega)
    rw [show A ++ (Y' ++ (x :: M ++ (X' ++ y :: C))) = (A ++ Y') ++ x :: ((M ++ X') ++ y :: C) by simp, this]
    simp
theorem rotF_app : ∀ (f : Nat) (A X Y C : List Int) (m i j : Nat), i = X.length → j = Y.length → m = A.length + i → 1 ≤ i → 1 ≤ j → i + j ≤ f → rotF m f i j (A ++ (X ++ (Y ++ C))) = A ++ (Y ++ (X ++ C))
  | 0, A, X, Y, C, m, i, j, hi, hj, hm, i1, j1, hf => by omega
  | f + 1, A, X, Y, C, m, i, j, hi, hj, hm, i1, j1, hf => by
    rw [rotF]
    by_cases c : i = j
    · rw [if_pos c]
      have := swR_app i A X [] Y C hi.symm (by omega)
      rw [List.length_nil, Nat.add_zero, ← hm] at this
      rw [show m - i = A.length by omega]
      exact this
    rw [if_neg c]
    by_cases c2 : j < i
    · rw [if_pos c2]
      obtain ⟨X1, X2, rfl, hx1⟩ : ∃ X1 X2, X = X1 ++ X2 ∧ X1.length = j := ⟨X.take j, X.drop j, (List.take_append_drop j X).symm, by rw [List.length_take]; omega⟩
      have hx2 : X2.length = i - j := by rw [List.length_append] at hi; omega
      have := swR_app j A X1 X2 Y C hx1 hj.symm
      rw [show A.length + j + X2.length = m by omega] at this
      rw [show m - i = A.length by omega, show A ++ (X1 ++ X2 ++ (Y ++ C)) = A ++ (X1 ++ (X2 ++ (Y ++ C))) by simp, this]
      have ih := rotF_app f (A ++ Y) X2 X1 C m (i - j) j hx2.symm hx1.symm (by rw [List.length_append]; omega) (by omega) j1 (by omega)
      rw [show A ++ (Y ++ (X2 ++ (X1 ++ C))) = (A ++ Y) ++ (X2 ++ (X1 ++ C)) by simp, ih]; simp
    · rw [if_neg c2]
      obtain ⟨Y1, Y2, rfl, hy1⟩ : ∃ Y1 Y2, Y = Y1 ++ Y2 ∧ Y1.length = j - i := ⟨Y.take (j - i), Y.drop (j - i), (List.take_append_drop _ Y).symm, by rw [List.length_take]; omega⟩
      have hy2 : Y2.length = i := by rw [List.length_append] at hj; omega
      have := swR_app i A X Y1 Y2 C hi.symm hy2
      rw [show A.length + i + Y1.length = m + j - i by omega] at this
      rw [show m - i = A.length by omega, show A ++ (X ++ (Y1 ++ Y2 ++ C)) = A ++ (X ++ (Y1 ++ (Y2 ++ C))) by simp, this]
      have ih := rotF_app f A Y2 Y1 (X ++ C) m i (j - i) hy2.symm hy1.symm hm i1 (by omega) (by omega)
      rw [ih]; simp
theorem bubU_app : ∀ (n : Nat) (A R C : List Int) (u : Int), R.length = n → bubU (A ++ u :: (R ++ C)) A.length n = A ++ (R ++ u :: C)
  | 0, A, R, C, u, h => by rw [List.length_eq_zero_iff.1 h]; rfl
  | n + 1, A, R, C, u, h => by
    obtain ⟨R', r, rfl⟩ : ∃ R' r, R = R' ++ [r] := ⟨R.dropLast, R.getLast (fun e => by subst e; cases h), (List.dropLast_concat_getLast _).symm⟩
    have h' : R'.length = n := by simpa using h
    have ih := bubU_app n A R' (r :: C) u h'
    rw [bubU, show A ++ u :: (R' ++ [r] ++ C) = A ++ u :: (R' ++ r :: C) by simp, ih]
    have := lsw_app (U := A ++ R') (V := []) (W := C) (x := u) (y := r) (i := A.length + n) (j := A.length + n + 1) (by simp; omega) (by simp; omega)
    rw [show A ++ (R' ++ u :: r :: C) = (A ++ R') ++ u :: ([] ++ r :: C) by simp, this]; simp
theorem bubD_app : ∀ (n : Nat) (A P C : List Int) (v : Int) (m : Nat), P.length = n → m = A.length + n → bubD (A ++ (P ++ v :: C)) m n = A ++ v :: (P ++ C)
  | 0, A, P, C, v, m, h, hm => by rw [List.length_eq_zero_iff.1 h]; rfl
  | n + 1, A, P, C, v, m, h, hm => by
    cases P with
    | nil => cases h
    | cons p P =>
      have h' : P.length = n := by simpa using h
      have ih := bubD_app n (A ++ [p]) P C v m h' (by simp; omega)
      rw [bubD, show A ++ (p :: P ++ v :: C) = (A ++ [p]) ++ (P ++ v :: C) by simp, ih]
      have := lsw_app' (U := A) (W := P ++ C) (x := p) (y := v) (i := m - n) (j := m - n - 1) (by omega) (by omega)
      rw [show A ++ [p] ++ v :: (P ++ C) = A ++ p :: v :: (P ++ C) by simp, this]; simp
theorem bisF_spec {p : Nat → Bool} : ∀ (f i j : Nat), i ≤ j → j - i ≤ f → (∀ x y, i ≤ x → x ≤ y → y < j → p y = true → p x = true) → (∀ x, i ≤ x → x < bisF p f i j → p x = true) ∧ ∀ x, bisF p f i j ≤ x → x < j → p x = false
  | 0, i, j, h, hf, hm => ⟨fun x h1 h2 => by rw [bisF] at h2; omega, fun x h1 h2 => by rw [bisF] at h1; omega⟩
  | f + 1, i, j, h, hf, hm => by
    rw [bisF]
    by_cases c : i < j
    · rw [if_pos c]
      by_cases c2 : p ((i + j) / 2) = true
      · rw [if_pos c2]
        obtain ⟨g1, g2⟩ := bisF_spec (p := p) f ((i + j) / 2 + 1) j (by omega) (by omega) (fun x y h1 h2 h3 h4 => hm x y (by omega) h2 h3 h4)
        refine ⟨fun x h1 h2 => ?_, g2⟩
        by_cases c3 : x ≤ (i + j) / 2
        · exact hm x _ h1 c3 (by omega) c2
        · exact g1 x (by omega) h2
      · rw [if_neg c2]
        obtain ⟨g1, g2⟩ := bisF_spec (p := p) f i ((i + j) / 2) (by omega) (by omega) (fun x y h1 h2 h3 h4 => hm x y h1 h2 (by omega) h4)
        refine ⟨g1, fun x h1 h2 => ?_⟩
        by_cases c3 : x < (i + j) / 2
        · exact g2 x h1 c3
        · cases hp : p x with
          | false => rfl
          | true => exact absurd (hm _ x (by omega) (by omega) h2 hp) c2
    · rw [if_neg c]
      exact ⟨fun x h1 h2 => by omega, fun x h1 h2 => by omega⟩
section
variable (K : Int → Int)
def Lx (x y : Int) : Prop := K x < K y ∨ (K x = K y ∧ x < y)
def lK (x y : Int) : Bool := decide (K x < K y)
variable {K}
theorem Lx.trans {x y z : Int} (h : Lx K x y) (h' : Lx K y z) : Lx K x z := by unfold Lx at *; omega
theorem lK_lt {u v : Int} (h : u < v) : lK K v u = true ↔ Lx K v u := by unfold lK Lx; rw [decide_eq_true_eq]; omega
theorem lK_ge {u v : Int} (h : u < v) : lK K v u = false ↔ Lx K u v := by unfold lK Lx; rw [decide_eq_false_iff_not]; omega
theorem pw_mid {P R : List Int} : (P ++ R).Pairwise (Lx K) ↔ P.Pairwise (Lx K) ∧ R.Pairwise (Lx K) ∧ ∀ x ∈ P, ∀ y ∈ R, Lx K x y := List.pairwise_append
theorem insJ_app : ∀ (n : Nat) (A P B : List Int) (v : Int), P.length = n → P.Pairwise (Lx K) → (∀ u ∈ P, u < v) → ∃ M, insJ (lK K) A.length (A.length + n) (A ++ (P ++ v :: B)) = A ++ (M ++ B) ∧ M.Perm (P ++ [v]) ∧ M.Pairwise (Lx K)
  | 0, A, P, B, v, h, hs, hv => by
    rw [List.length_eq_zero_iff.1 h]
    refine ⟨[v], ?_, .refl _, List.pairwise_singleton _ _⟩
    rw [Nat.add_zero]
    have : insJ (lK K) A.length A.length (A ++ ([] ++ v :: B)) = A ++ ([] ++ v :: B) := by
      cases hl : A.length with
      | zero => rw [insJ]
      | succ k =>
        rw [insJ, if_neg (by simp)]
    rw [this]; rfl
  | n + 1, A, P, B, v, h, hs, hv => by
    obtain ⟨P', u, rfl⟩ : ∃ P' u, P = P' ++ [u] := ⟨P.dropLast, P.getLast (fun e => by subst e; cases h), (List.dropLast_concat_getLast _).symm⟩
    have h' : P'.length = n := by simpa using h
    obtain ⟨s1, s2, s3⟩ := pw_mid.1 hs
    have huv : u < v := hv u (by simp)
    have e1 : (A ++ (P' ++ [u] ++ v :: B)).getD (A.length + n + 1) 0 = v := by
      rw [show A ++ (P' ++ [u] ++ v :: B) = (A ++ P' ++ [u]) ++ v :: B by simp]; exact getD_app_r (by simp; omega)
    have e2 : (A ++ (P' ++ [u] ++ v :: B)).getD (A.length + n) 0 = u := by
      rw [show A ++ (P' ++ [u] ++ v :: B) = (A ++ P') ++ u :: v :: B by simp]; exact getD_app_r (by simp; omega)
    rw [← Nat.add_assoc, insJ, e1, e2, decide_eq_true (show A.length < A.length + n + 1 by omega), Bool.true_and]
    by_cases c : lK K v u = true
    · rw [if_pos c]
      have hl := lsw_app' (U := A ++ P') (W := B) (x := u) (y := v) (i := A.length + n + 1) (j := A.length + n) (by simp; omega) (by simp; omega)
      rw [show A ++ (P' ++ [u] ++ v :: B) = (A ++ P') ++ u :: v :: B by simp, hl]
      obtain ⟨M, m1, m2, m3⟩ := insJ_app n A P' (u :: B) v h' s1 (fun x hx => hv x (by simp [hx]))
      refine ⟨M ++ [u], ?_, ?_, pw_mid.2 ⟨m3, List.pairwise_singleton _ _, fun x hx y hy => ?_⟩⟩
      · rw [show (A ++ P') ++ v :: u :: B = A ++ (P' ++ v :: u :: B) by simp, m1]; simp
      · refine (m2.append_right [u]).trans ?_
        rw [List.append_assoc, List.append_assoc]
        exact List.Perm.append_left P' (List.Perm.swap u v [])
      · rw [List.mem_singleton] at hy
        subst hy
        rcases List.mem_append.1 (m2.mem_iff.1 hx) with hx | hx
        · exact s3 x hx y (by simp)
        · rw [List.mem_singleton] at hx; subst hx; exact (lK_lt huv).1 c
    · rw [if_neg c]
      have c' : lK K v u = false := by simpa using c
      refine ⟨P' ++ [u] ++ [v], by simp, .refl _, pw_mid.2 ⟨hs, List.pairwise_singleton _ _, fun x hx y hy => ?_⟩⟩
      rw [List.mem_singleton] at hy
      subst hy
      have := (lK_ge huv).1 c'
      rcases List.mem_append.1 hx with hx | hx
      · exact (s3 x hx u (by simp)).trans this
      · rw [List.mem_singleton] at hx; subst hx; exact this
theorem insO_app : ∀ (c : Nat) (A P : List Int) (B : List Int), P.length = c + 1 → P.Pairwise (· < ·) → ∃ M, insO (lK K) A.length c (A ++ (P ++ B)) = A ++ (M ++ B) ∧ M.Perm P ∧ M.Pairwise (Lx K)
  | 0, A, P, B, h, hp => by
    obtain ⟨x, rfl⟩ : ∃ x, P = [x] := List.length_eq_one_iff.1 h
    exact ⟨[x], rfl, .refl _, List.pairwise_singleton _ _⟩
  | c + 1, A, P, B, h, hp => by
    obtain ⟨P', v, rfl⟩ : ∃ P' v, P = P' ++ [v] := ⟨P.dropLast, P.getLast (fun e => by subst e; cases h), (List.dropLast_concat_getLast _).symm⟩
    obtain ⟨q1, q2, q3⟩ := List.pairwise_append.1 hp
    obtain ⟨M, m1, m2, m3⟩ := insO_app c A P' (v :: B) (by simpa using h) q1
    obtain ⟨N, n1, n2, n3⟩ := insJ_app (K := K) (c + 1) A M B v (by rw [m2.length_eq]; simpa using h) m3 (fun u hu => q3 u (m2.mem_iff.1 hu) v (by simp))
    refine ⟨N, ?_, n2.trans (m2.append_right [v]), n3⟩
    rw [insO, show A ++ (P' ++ [v] ++ B) = A ++ (P' ++ v :: B) by simp, m1, show A.length + 1 + c = A.length + (c + 1) by omega, n1]
theorem pw_at {xs : List Int} (h : xs.Pairwise (Lx K)) {i j : Nat} (hij : i < j) (hj : j < xs.length) : Lx K (xs.getD i 0) (xs.getD j 0) := by
  have e1 : xs.getD i 0 = xs[i] := by simp [List.getD, show i < xs.length by omega]
  have e2 : xs.getD j 0 = xs[j] := by simp [List.getD, hj]
  rw [e1, e2]
  exact List.pairwise_iff_getElem.1 h i j (by omega) hj hij
theorem getD_mid {A P B : List Int} {i : Nat} (h1 : A.length ≤ i) (h2 : i < A.length + P.length) : (A ++ (P ++ B)).getD i 0 = P.getD (i - A.length) 0 := by
  simp only [List.getD]
  rw [List.getElem?_append_right h1, List.getElem?_append_left (by omega)]
theorem getD_mem {P : List Int} {i : Nat} (h : i < P.length) : P.getD i 0 ∈ P := by
  have e1 : P.getD i 0 = P[i] := by simp [List.getD, h]
  rw [e1]; exact List.getElem_mem h
theorem mem_getD {P : List Int} {x : Int} (h : x ∈ P) : ∃ i, i < P.length ∧ P.getD i 0 = x := by
  obtain ⟨i, hi, rfl⟩ := List.getElem_of_mem h
  exact ⟨i, hi, by simp [List.getD, hi]⟩
theorem symF_left (A P R B : List Int) (a m b : Nat) (ha : a = A.length) (hm : m = a + P.length) (hb : b = m + R.length) (p1 : 1 ≤ P.length) (r1 : 1 ≤ R.length) (hP : P.Pairwise (Lx K)) (hR : R.Pairwise (Lx K)) (hPR : ∀ u ∈ P, ∀ v ∈ R, u < v) (k1 : m = a + 1) : ∃ M, bubU (A ++ (P ++ (R ++ B))) a (bisF (fun h => lK K ((A ++ (P ++ (R ++ B))).getD h 0) ((A ++ (P ++ (R ++ B))).getD a 0)) (b - m) m b - 1 - a) = A ++ (M ++ B) ∧ M.Perm (P ++ R) ∧ M.Pairwise (Lx K) := by
  have gP : ∀ k, a ≤ k → k < m → (A ++ (P ++ (R ++ B))).getD k 0 = P.getD (k - a) 0 := fun k h1 h2 => by rw [getD_mid (by omega) (by omega), ha]
  have gR : ∀ k, m ≤ k → k < b → (A ++ (P ++ (R ++ B))).getD k 0 = R.getD (k - m) 0 := fun k h1 h2 => by
    rw [show A ++ (P ++ (R ++ B)) = (A ++ P) ++ (R ++ B) by simp, getD_mid (by rw [List.length_append]; omega) (by rw [List.length_append]; omega), List.length_append, show A.length + P.length = m by omega]
  obtain ⟨u, rfl⟩ : ∃ u, P = [u] := List.length_eq_one_iff.1 (by omega)
  have hu : (A ++ ([u] ++ (R ++ B))).getD a 0 = u := by rw [gP a (Nat.le_refl _) (by omega), Nat.sub_self]; rfl
  have hmono : ∀ x y, m ≤ x → x ≤ y → y < b → lK K ((A ++ ([u] ++ (R ++ B))).getD y 0) ((A ++ ([u] ++ (R ++ B))).getD a 0) = true → lK K ((A ++ ([u] ++ (R ++ B))).getD x 0) ((A ++ ([u] ++ (R ++ B))).getD a 0) = true := fun x y h1 h2 h3 h4 => by
    rw [hu, gR _ (by omega) h3] at h4
    rw [hu, gR _ h1 (by omega)]
    have hy := hPR u (by simp) _ (getD_mem (P := R) (i := y - m) (by omega))
    have hx := hPR u (by simp) _ (getD_mem (P := R) (i := x - m) (by omega))
    rw [lK_lt hy] at h4
    rw [lK_lt hx]
    by_cases e : x = y
    · subst e; exact h4
    · exact (pw_at hR (show x - m < y - m by omega) (by omega)).trans h4
  have hin := bisF_in (fun h => lK K ((A ++ ([u] ++ (R ++ B))).getD h 0) ((A ++ ([u] ++ (R ++ B))).getD a 0)) (b - m) m b (by omega)
  obtain ⟨g1, g2⟩ := bisF_spec (p := fun h => lK K ((A ++ ([u] ++ (R ++ B))).getD h 0) ((A ++ ([u] ++ (R ++ B))).getD a 0)) (b - m) m b (by omega) (Nat.le_refl _) hmono
  generalize bisF (fun h => lK K ((A ++ ([u] ++ (R ++ B))).getD h 0) ((A ++ ([u] ++ (R ++ B))).getD a 0)) (b - m) m b = q at *
  obtain ⟨R1, R2, rfl, hr1⟩ : ∃ R1 R2, R = R1 ++ R2 ∧ R1.length = q - m := ⟨R.take (q - m), R.drop (q - m), (List.take_append_drop _ R).symm, by rw [List.length_take]; omega⟩
  have hb1 := bubU_app (q - 1 - a) A R1 (R2 ++ B) u (by omega)
  rw [← ha] at hb1
  refine ⟨R1 ++ u :: R2, ?_, ?_, ?_⟩
  · rw [show A ++ ([u] ++ (R1 ++ R2 ++ B)) = A ++ u :: (R1 ++ (R2 ++ B)) by simp, hb1]; simp
  · rw [show [u] ++ (R1 ++ R2) = u :: (R1 ++ R2) by simp]; exact List.perm_middle
  · obtain ⟨s1, s2, s3⟩ := pw_mid.1 hR
    rw [List.length_append] at hb
    refine pw_mid.2 ⟨s1, List.pairwise_cons.2 ⟨fun y hy => ?_, s2⟩, fun x hx y hy => ?_⟩
    · obtain ⟨i, hi, rfl⟩ := mem_getD hy
      have h0 := g2 (q + i) (by omega) (by omega)
      rw [hu, gR _ (by omega) (by omega)] at h0
      have e : (R1 ++ R2).getD (q + i - m) 0 = R2.getD i 0 := by simp only [List.getD]; rw [List.getElem?_append_right (by omega), show q + i - m - R1.length = i by omega]
      rw [e] at h0
      exact (lK_ge (hPR u (by simp) _ (List.mem_append_right _ hy))).1 h0
    · have hxu : Lx K x u := by
        obtain ⟨i, hi, rfl⟩ := mem_getD hx
        have h0 := g1 (m + i) (by omega) (by omega)
        rw [hu, gR _ (by omega) (by omega)] at h0
        have e : (R1 ++ R2).getD (m + i - m) 0 = R1.getD i 0 := by simp only [List.getD]; rw [show m + i - m = i by omega, List.getElem?_append_left hi]
        rw [e] at h0
        exact (lK_lt (hPR u (by simp) _ (List.mem_append_left _ hx))).1 h0
      rcases List.mem_cons.1 hy with rfl | hy
      · exact hxu
      · exact s3 x hx y hy
theorem symF_right (A P R B : List Int) (a m b : Nat) (ha : a = A.length) (hm : m = a + P.length) (hb : b = m + R.length) (p1 : 1 ≤ P.length) (r1 : 1 ≤ R.length) (hP : P.Pairwise (Lx K)) (hR : R.Pairwise (Lx K)) (hPR : ∀ u ∈ P, ∀ v ∈ R, u < v) (k2 : b = m + 1) : ∃ M, bubD (A ++ (P ++ (R ++ B))) m (m - bisF (fun h => !lK K ((A ++ (P ++ (R ++ B))).getD m 0) ((A ++ (P ++ (R ++ B))).getD h 0)) (m - a) a m) = A ++ (M ++ B) ∧ M.Perm (P ++ R) ∧ M.Pairwise (Lx K) := by
  have gP : ∀ k, a ≤ k → k < m → (A ++ (P ++ (R ++ B))).getD k 0 = P.getD (k - a) 0 := fun k h1 h2 => by rw [getD_mid (by omega) (by omega), ha]
  have gR : ∀ k, m ≤ k → k < b → (A ++ (P ++ (R ++ B))).getD k 0 = R.getD (k - m) 0 := fun k h1 h2 => by
    rw [show A ++ (P ++ (R ++ B)) = (A ++ P) ++ (R ++ B) by simp, getD_mid (by rw [List.length_append]; omega) (by rw [List.length_append]; omega), List.length_append, show A.length + P.length = m by omega]
  obtain ⟨v, rfl⟩ : ∃ v, R = [v] := List.length_eq_one_iff.1 (by omega)
  have hv : (A ++ (P ++ ([v] ++ B))).getD m 0 = v := by rw [gR m (Nat.le_refl _) (by omega), Nat.sub_self]; rfl
  have hmono : ∀ x y, a ≤ x → x ≤ y → y < m → (!lK K ((A ++ (P ++ ([v] ++ B))).getD m 0) ((A ++ (P ++ ([v] ++ B))).getD y 0)) = true → (!lK K ((A ++ (P ++ ([v] ++ B))).getD m 0) ((A ++ (P ++ ([v] ++ B))).getD x 0)) = true := fun x y h1 h2 h3 h4 => by
    rw [hv, gP _ (by omega) h3, Bool.not_eq_true'] at h4
    rw [hv, gP _ h1 (by omega), Bool.not_eq_true']
    have hy := hPR _ (getD_mem (P := P) (i := y - a) (by omega)) v (by simp)
    have hx := hPR _ (getD_mem (P := P) (i := x - a) (by omega)) v (by simp)
    rw [lK_ge hy] at h4
    rw [lK_ge hx]
    by_cases e : x = y
    · subst e; exact h4
    · exact (pw_at hP (show x - a < y - a by omega) (by omega)).trans h4
  have hin := bisF_in (fun h => !lK K ((A ++ (P ++ ([v] ++ B))).getD m 0) ((A ++ (P ++ ([v] ++ B))).getD h 0)) (m - a) a m (by omega)
  obtain ⟨g1, g2⟩ := bisF_spec (p := fun h => !lK K ((A ++ (P ++ ([v] ++ B))).getD m 0) ((A ++ (P ++ ([v] ++ B))).getD h 0)) (m - a) a m (by omega) (Nat.le_refl _) hmono
  generalize bisF (fun h => !lK K ((A ++ (P ++ ([v] ++ B))).getD m 0) ((A ++ (P ++ ([v] ++ B))).getD h 0)) (m - a) a m = q at *
  obtain ⟨P1, P2, rfl, hp1⟩ : ∃ P1 P2, P = P1 ++ P2 ∧ P1.length = q - a := ⟨P.take (q - a), P.drop (q - a), (List.take_append_drop _ P).symm, by rw [List.length_take]; omega⟩
  rw [List.length_append] at hm
  have hb1 := bubD_app (m - q) (A ++ P1) P2 B v m (by omega) (by rw [List.length_append]; omega)
  refine ⟨P1 ++ v :: P2, ?_, ?_, ?_⟩
  · rw [show A ++ (P1 ++ P2 ++ ([v] ++ B)) = (A ++ P1) ++ (P2 ++ v :: B) by simp, hb1]; simp
  · rw [List.append_assoc]
    refine List.Perm.append_left P1 ?_
    have := (List.perm_append_comm (l₁ := [v]) (l₂ := P2))
    simpa using this
  · obtain ⟨s1, s2, s3⟩ := pw_mid.1 hP
    refine pw_mid.2 ⟨s1, List.pairwise_cons.2 ⟨fun y hy => ?_, s2⟩, fun x hx y hy => ?_⟩
    · obtain ⟨i, hi, rfl⟩ := mem_getD hy
      have h0 := g2 (q + i) (by omega) (by omega)
      rw [hv, gP _ (by omega) (by omega)] at h0
      have e : (P1 ++ P2).getD (q + i - a) 0 = P2.getD i 0 := by simp only [List.getD]; rw [List.getElem?_append_right (by omega), show q + i - a - P1.length = i by omega]
      rw [e, Bool.not_eq_false'] at h0
      exact (lK_lt (hPR _ (List.mem_append_right _ hy) v (by simp))).1 h0
    · rcases List.mem_cons.1 hy with rfl | hy
      · obtain ⟨i, hi, rfl⟩ := mem_getD hx
        have h0 := g1 (a + i) (by omega) (by omega)
        rw [hv, gP _ (by omega) (by omega)] at h0
        have e : (P1 ++ P2).getD (a + i - a) 0 = P1.getD i 0 := by simp only [List.getD]; rw [show a + i - a = i by omega, List.getElem?_append_left hi]
        rw [e, Bool.not_eq_true'] at h0
        exact (lK_ge (hPR _ (List.mem_append_left _ hx) y (by simp))).1 h0
      · exact s3 x hx y hy
set_option maxHeartbeats 4000000 in
theorem symF_app : ∀ (f : Nat) (A P R B : List Int) (a m b : Nat), a = A.length → m = a + P.length → b = m + R.length → 1 ≤ P.length → 1 ≤ R.length → b - a ≤ f → P.Pairwise (Lx K) → R.Pairwise (Lx K) → (∀ u ∈ P, ∀ v ∈ R, u < v) →
    ∃ M, symF (lK K) f a m b (A ++ (P ++ (R ++ B))) = A ++ (M ++ B) ∧ M.Perm (P ++ R) ∧ M.Pairwise (Lx K)
  | 0, A, P, R, B, a, m, b, ha, hm, hb, p1, r1, hf, hP, hR, hPR => by omega
  | f + 1, A, P, R, B, a, m, b, ha, hm, hb, p1, r1, hf, hP, hR, hPR => by
    rw [symF]
    have gP : ∀ k, a ≤ k → k < m → (A ++ (P ++ (R ++ B))).getD k 0 = P.getD (k - a) 0 := fun k h1 h2 => by rw [getD_mid (by omega) (by omega), ha]
    have gR : ∀ k, m ≤ k → k < b → (A ++ (P ++ (R ++ B))).getD k 0 = R.getD (k - m) 0 := fun k h1 h2 => by
      rw [show A ++ (P ++ (R ++ B)) = (A ++ P) ++ (R ++ B) by simp, getD_mid (by rw [List.length_append]; omega) (by rw [List.length_append]; omega), List.length_append, show A.length + P.length = m by omega]
    by_cases k1 : m = a + 1
    · rw [if_pos k1]; exact symF_left A P R B a m b ha hm hb p1 r1 hP hR hPR k1
    rw [if_neg k1]
    by_cases k2 : b = m + 1
    · rw [if_pos k2]; exact symF_right A P R B a m b ha hm hb p1 r1 hP hR hPR k2
    rw [if_neg k2]
    -- the middle is found
    have hsi := symS_in (lt := lK K) (xs := A ++ (P ++ (R ++ B))) (a := a) (m := m) (b := b) (by omega) (by omega)
    have hXd : symX (lK K) a m b (A ++ (P ++ (R ++ B))) = if (decide (symS (lK K) a m b (A ++ (P ++ (R ++ B))) < m) && decide (m < (a + b) / 2 + m - symS (lK K) a m b (A ++ (P ++ (R ++ B))))) = true then rotF m ((a + b) / 2 + m - symS (lK K) a m b (A ++ (P ++ (R ++ B))) - symS (lK K) a m b (A ++ (P ++ (R ++ B)))) (m - symS (lK K) a m b (A ++ (P ++ (R ++ B)))) ((a + b) / 2 + m - symS (lK K) a m b (A ++ (P ++ (R ++ B))) - m) (A ++ (P ++ (R ++ B))) else (A ++ (P ++ (R ++ B))) := rfl
    have hS : symS (lK K) a m b (A ++ (P ++ (R ++ B))) = bisF (fun c => !lK K ((A ++ (P ++ (R ++ B))).getD ((a + b) / 2 + m - 1 - c) 0) ((A ++ (P ++ (R ++ B))).getD c 0)) ((if (a + b) / 2 < m then (a + b) / 2 else m) - (if (a + b) / 2 < m then (a + b) / 2 + m - b else a)) (if (a + b) / 2 < m then (a + b) / 2 + m - b else a) (if (a + b) / 2 < m then (a + b) / 2 else m) := rfl
    generalize symX (lK K) a m b (A ++ (P ++ (R ++ B))) = X at *
    generalize symS (lK K) a m b (A ++ (P ++ (R ++ B))) = s at *
    have hdl : a < (a + b) / 2 ∧ (a + b) / 2 < b ∧ (a + b) / 2 * 2 ≤ a + b ∧ a + b ≤ (a + b) / 2 * 2 + 1 := by omega
    generalize (a + b) / 2 = d at *
    obtain ⟨s0, hs0⟩ : ∃ s0, (if d < m then d + m - b else a) = s0 := ⟨_, rfl⟩
    obtain ⟨r0, hr0⟩ : ∃ r0, (if d < m then d else m) = r0 := ⟨_, rfl⟩
    have key : a ≤ s0 ∧ s0 ≤ r0 ∧ r0 ≤ m ∧ r0 ≤ d ∧ d + m ≤ b + s0 ∧ (d + m = b + s0 ∨ s0 = a) ∧ (r0 = d ∨ r0 = m) := by split at hs0 <;> split at hr0 <;> omega
    rw [hs0, hr0] at hS
    obtain ⟨q1, q2, q3, q4, q5, q6, q7⟩ := key
    have hmono : ∀ x y, s0 ≤ x → x ≤ y → y < r0 → (!lK K ((A ++ (P ++ (R ++ B))).getD (d + m - 1 - y) 0) ((A ++ (P ++ (R ++ B))).getD y 0)) = true → (!lK K ((A ++ (P ++ (R ++ B))).getD (d + m - 1 - x) 0) ((A ++ (P ++ (R ++ B))).getD x 0)) = true := fun x y h1 h2 h3 h4 => by
      rw [gR _ (by omega) (by omega), gP _ (by omega) (by omega), Bool.not_eq_true'] at h4
      rw [gR _ (by omega) (by omega), gP _ (by omega) (by omega), Bool.not_eq_true']
      have hy := hPR _ (getD_mem (P := P) (i := y - a) (by omega)) _ (getD_mem (P := R) (i := d + m - 1 - y - m) (by omega))
      have hx := hPR _ (getD_mem (P := P) (i := x - a) (by omega)) _ (getD_mem (P := R) (i := d + m - 1 - x - m) (by omega))
      rw [lK_ge hy] at h4
      rw [lK_ge hx]
      by_cases e : x = y
      · subst e; exact h4
      · exact ((pw_at hP (show x - a < y - a by omega) (by omega)).trans h4).trans (pw_at hR (show d + m - 1 - y - m < d + m - 1 - x - m by omega) (by omega))
    have hin := bisF_in (fun c => !lK K ((A ++ (P ++ (R ++ B))).getD (d + m - 1 - c) 0) ((A ++ (P ++ (R ++ B))).getD c 0)) (r0 - s0) s0 r0 q2
    obtain ⟨g1, g2⟩ := bisF_spec (p := fun c => !lK K ((A ++ (P ++ (R ++ B))).getD (d + m - 1 - c) 0) ((A ++ (P ++ (R ++ B))).getD c 0)) (r0 - s0) s0 r0 q2 (Nat.le_refl _) hmono
    rw [← hS] at hin g1 g2
    obtain ⟨e, he⟩ : ∃ e, d + m - s = e := ⟨_, rfl⟩
    rw [he] at hsi hXd ⊢
    -- what lies before the middle is less than what lies behind
    have c1 : s0 < s → Lx K (P.getD (s - 1 - a) 0) (R.getD (e - m) 0) := fun h => by
      have h0 := g1 (s - 1) (by omega) (by omega)
      rw [gR _ (by omega) (by omega), gP _ (by omega) (by omega), Bool.not_eq_true', show d + m - 1 - (s - 1) - m = e - m by omega] at h0
      exact (lK_ge (hPR _ (getD_mem (by omega)) _ (getD_mem (by omega)))).1 h0
    have c2 : s < r0 → Lx K (R.getD (e - 1 - m) 0) (P.getD (s - a) 0) := fun h => by
      have h0 := g2 s (Nat.le_refl _) h
      rw [gR _ (by omega) (by omega), gP _ (by omega) (by omega), Bool.not_eq_false', show d + m - 1 - s - m = e - 1 - m by omega] at h0
      exact (lK_lt (hPR _ (getD_mem (by omega)) _ (getD_mem (by omega)))).1 h0
    obtain ⟨P1, P2, hPe, hp1⟩ : ∃ P1 P2, P = P1 ++ P2 ∧ P1.length = s - a := ⟨P.take (s - a), P.drop (s - a), (List.take_append_drop _ P).symm, by rw [List.length_take]; omega⟩
    obtain ⟨R1, R2, hRe, hr1⟩ : ∃ R1 R2, R = R1 ++ R2 ∧ R1.length = e - m := ⟨R.take (e - m), R.drop (e - m), (List.take_append_drop _ R).symm, by rw [List.length_take]; omega⟩
    have hp2 : P2.length = m - s := by have := congrArg List.length hPe; rw [List.length_append] at this; omega
    have hr2 : R2.length = b - e := by have := congrArg List.length hRe; rw [List.length_append] at this; omega
    have hX : X = A ++ (P1 ++ (R1 ++ (P2 ++ (R2 ++ B)))) := by
      rw [hXd]
      by_cases c : s < m ∧ m < e
      · rw [if_pos (by simp; omega)]
        have := rotF_app (e - s) (A ++ P1) P2 R1 (R2 ++ B) m (m - s) (e - m) (by omega) (by omega) (by rw [List.length_append]; omega) (by omega) (by omega) (by omega)
        rw [hPe, hRe, show A ++ (P1 ++ P2 ++ (R1 ++ R2 ++ B)) = (A ++ P1) ++ (P2 ++ (R1 ++ (R2 ++ B))) by simp, this]; simp
      · rw [if_neg (by simp; omega), hPe, hRe]
        by_cases c3 : s < m
        · have : R1 = [] := List.length_eq_zero_iff.1 (by omega)
          rw [this]; simp
        · have : P2 = [] := List.length_eq_zero_iff.1 (by omega)
          rw [this]; simp
    clear hXd
    subst hX
    rw [hPe] at hP
    rw [hRe] at hR
    obtain ⟨sp1, sp2, sp3⟩ := pw_mid.1 hP
    obtain ⟨sr1, sr2, sr3⟩ := pw_mid.1 hR
    have eP : ∀ i, i < P1.length → P.getD i 0 = P1.getD i 0 := fun i hi => by rw [hPe]; simp only [List.getD]; rw [List.getElem?_append_left hi]
    have eP2 : ∀ i, P.getD (P1.length + i) 0 = P2.getD i 0 := fun i => by rw [hPe]; simp only [List.getD]; rw [List.getElem?_append_right (by omega), Nat.add_sub_cancel_left]
    have eR : ∀ i, i < R1.length → R.getD i 0 = R1.getD i 0 := fun i hi => by rw [hRe]; simp only [List.getD]; rw [List.getElem?_append_left hi]
    have eR2 : ∀ i, R.getD (R1.length + i) 0 = R2.getD i 0 := fun i => by rw [hRe]; simp only [List.getD]; rw [List.getElem?_append_right (by omega), Nat.add_sub_cancel_left]
    have d1 : ∀ x ∈ P1, ∀ y ∈ R2, Lx K x y := fun x hx y hy => by
      obtain ⟨i, hi, rfl⟩ := mem_getD hx
      obtain ⟨j, hj, rfl⟩ := mem_getD hy
      have h := c1 (by omega)
      rw [eP _ (by omega), show e - m = R1.length + 0 by omega, eR2] at h
      have h1 : Lx K (P1.getD i 0) (R2.getD 0 0) := by
        by_cases ei : i = s - 1 - a
        · subst ei; exact h
        · exact (pw_at sp1 (show i < s - 1 - a by omega) (by omega)).trans h
      by_cases ej : j = 0
      · subst ej; exact h1
      · exact h1.trans (pw_at sr2 (show 0 < j by omega) hj)
    have d2 : ∀ x ∈ R1, ∀ y ∈ P2, Lx K x y := fun x hx y hy => by
      obtain ⟨i, hi, rfl⟩ := mem_getD hx
      obtain ⟨j, hj, rfl⟩ := mem_getD hy
      have h := c2 (by omega)
      rw [eR _ (by omega), show s - a = P1.length + 0 by omega, eP2] at h
      have h1 : Lx K (R1.getD i 0) (P2.getD 0 0) := by
        by_cases ei : i = e - 1 - m
        · subst ei; exact h
        · exact (pw_at sr1 (show i < e - 1 - m by omega) (by omega)).trans h
      by_cases ej : j = 0
      · subst ej; exact h1
      · exact h1.trans (pw_at sp2 (show 0 < j by omega) hj)
    have hPR1 : ∀ u ∈ P1, ∀ v ∈ R1, u < v := fun u hu v hv => hPR u (by rw [hPe]; simp [hu]) v (by rw [hRe]; simp [hv])
    have hPR2 : ∀ u ∈ P2, ∀ v ∈ R2, u < v := fun u hu v hv => hPR u (by rw [hPe]; simp [hu]) v (by rw [hRe]; simp [hv])
    -- the left part
    obtain ⟨M1, m1, m2, m3⟩ : ∃ M1, (if (decide (a < s) && decide (s < d)) = true then symF (lK K) f a s d (A ++ (P1 ++ (R1 ++ (P2 ++ (R2 ++ B))))) else A ++ (P1 ++ (R1 ++ (P2 ++ (R2 ++ B))))) = A ++ (M1 ++ (P2 ++ (R2 ++ B))) ∧ M1.Perm (P1 ++ R1) ∧ M1.Pairwise (Lx K) := by
      by_cases c : a < s ∧ s < d
      · rw [if_pos (by simp; omega)]
        exact symF_app f A P1 R1 (P2 ++ (R2 ++ B)) a s d ha (by omega) (by omega) (by omega) (by omega) (by omega) sp1 sr1 hPR1
      · rw [if_neg (by simp; omega)]
        refine ⟨P1 ++ R1, by simp, .refl _, pw_mid.2 ⟨sp1, sr1, fun x hx y hy => ?_⟩⟩
        have := List.length_pos_of_mem hx
        have := List.length_pos_of_mem hy
        omega
    rw [m1]
    have hM1 := m2.length_eq
    rw [List.length_append] at hM1
    obtain ⟨M2, n1, n2, n3⟩ : ∃ M2, (if (decide (d < e) && decide (e < b)) = true then symF (lK K) f d e b (A ++ (M1 ++ (P2 ++ (R2 ++ B)))) else A ++ (M1 ++ (P2 ++ (R2 ++ B)))) = A ++ (M1 ++ (M2 ++ B)) ∧ M2.Perm (P2 ++ R2) ∧ M2.Pairwise (Lx K) := by
      by_cases c : d < e ∧ e < b
      · rw [if_pos (by simp; omega)]
        obtain ⟨M, h1, h2, h3⟩ := symF_app f (A ++ M1) P2 R2 B d e b (by rw [List.length_append]; omega) (by omega) (by omega) (by omega) (by omega) (by omega) sp2 sr2 hPR2
        refine ⟨M, ?_, h2, h3⟩
        rw [show A ++ (M1 ++ (P2 ++ (R2 ++ B))) = (A ++ M1) ++ (P2 ++ (R2 ++ B)) by simp, h1]; simp
      · rw [if_neg (by simp; omega)]
        refine ⟨P2 ++ R2, by simp, .refl _, pw_mid.2 ⟨sp2, sr2, fun x hx y hy => ?_⟩⟩
        have := List.length_pos_of_mem hx
        have := List.length_pos_of_mem hy
        omega
    rw [n1]
    refine ⟨M1 ++ M2, by simp, ?_, pw_mid.2 ⟨m3, n3, fun x hx y hy => ?_⟩⟩
    · refine (m2.append n2).trans ?_
      rw [hPe, hRe, List.append_assoc, List.append_assoc]
      refine List.Perm.append_left P1 ?_
      rw [← List.append_assoc, ← List.append_assoc]
      exact List.Perm.append_right R2 List.perm_append_comm
    · rcases List.mem_append.1 (m2.mem_iff.1 hx) with hx | hx <;> rcases List.mem_append.1 (n2.mem_iff.1 hy) with hy | hy
      · exact sp3 x hx y hy
      · exact d1 x hx y hy
      · exact d2 x hx y hy
      · exact sr3 x hx y hy
theorem stF_sorted {xs : List Int} (h : xs.Pairwise (· < ·)) (h1 : 1 ≤ xs.length) : (stF (lK K) xs).Perm xs ∧ (stF (lK K) xs).Pairwise (Lx K) := by
  unfold stF
  by_cases c : xs.length < 20
  · rw [if_pos c]
    obtain ⟨M, m1, m2, m3⟩ := insO_app (K := K) (xs.length - 1) [] xs [] (by omega) h
    simp only [List.nil_append, List.append_nil, List.length_nil] at m1
    rw [m1]; exact ⟨m2, m3⟩
  rw [if_neg c]
  obtain ⟨P, R, rfl, hp⟩ : ∃ P R, xs = P ++ R ∧ P.length = 20 := ⟨xs.take 20, xs.drop 20, (List.take_append_drop _ xs).symm, by rw [List.length_take]; omega⟩
  obtain ⟨hP, hR, hPR⟩ := List.pairwise_append.1 h
  obtain ⟨M, m1, m2, m3⟩ := insO_app (K := K) 19 [] P R hp hP
  simp only [List.nil_append, List.length_nil] at m1
  rw [m1]
  by_cases c2 : (P ++ R).length = 20
  · have : R = [] := List.length_eq_zero_iff.1 (by rw [List.length_append] at c2; omega)
    rw [if_pos c2, this]
    show (M ++ []).Perm (P ++ []) ∧ (M ++ []).Pairwise (Lx K)
    simp only [List.append_nil]
    exact ⟨m2, m3⟩
  rw [if_neg c2]
  rw [List.length_append] at c2
  obtain ⟨N, n1, n2, n3⟩ := insO_app (K := K) (R.length - 1) M R [] (by omega) hR
  simp only [List.append_nil] at n1
  have hMl := m2.length_eq
  rw [List.length_append, show P.length + R.length - 21 = R.length - 1 by omega, show (20 : Nat) = M.length by omega, n1]
  obtain ⟨S, s1, s2, s3⟩ := symF_app (K := K) (P.length + R.length) [] M N [] 0 20 (P.length + R.length) rfl (by omega) (by rw [n2.length_eq]; omega) (by omega) (by rw [n2.length_eq]; omega) (by omega) m3 n3 (fun u hu v hv => hPR u (m2.mem_iff.1 hu) v (n2.mem_iff.1 hv))
  simp only [List.nil_append, List.append_nil] at s1
  rw [show M.length = 20 by omega, s1]
  exact ⟨s2.trans (m2.append n2), s3⟩
end
end Go.Proofs.Ytglfcaioapdiaaa.Bk

namespace Go.Proofs.Ytglfcaioapdiaaa.Bk
open Go Go.RowKit Go.Proofs.Ytglfcaioapdiaaa.Aw
set_option linter.unusedSimpArgs false
set_option linter.unusedVariables false
attribute [local irreducible] AW SQ Step RO RC DE Thn InB
def ordK (ls : List Ln) : List Int := stF (ltO ls) (part0 ls.length)
theorem part0_up (m : Nat) : (part0 m).Pairwise (· < ·) := by
  unfold part0
  rw [List.pairwise_map]
  exact List.Pairwise.imp (fun h => by omega) List.pairwise_lt_range
theorem part0_mem {m : Nat} {x : Int} : x ∈ part0 m ↔ 0 ≤ x ∧ x < m := by
  unfold part0
  rw [List.mem_map]
  constructor
  · rintro ⟨j, hj, rfl⟩; have := List.mem_range.1 hj; omega
  · rintro ⟨h0, h1⟩; exact ⟨x.toNat, List.mem_range.2 (by omega), by omega⟩
theorem ordK_perm (ls : List Ln) : (ordK ls).Perm (part0 ls.length) := by
  by_cases h : 1 ≤ ls.length
  · exact (stF_sorted (K := kO ls) (part0_up _) (by rw [part0_len]; exact h)).1
  · have : ls.length = 0 := by omega
    unfold ordK stF
    rw [part0_len, this]; exact .refl _
theorem ordK_len (ls : List Ln) : (ordK ls).length = ls.length := by rw [(ordK_perm ls).length_eq, part0_len]
theorem ordK_in {ls : List Ln} {i : Nat} (h : i < (ordK ls).length) : 0 ≤ (ordK ls)[i] ∧ (ordK ls)[i] < ls.length :=
  part0_mem.1 ((ordK_perm ls).mem_iff.1 (List.getElem_mem h))
def spT (n : Int) (ls : List Ln) (ys : List Int) : Nat → List Int
  | 0 => []
  | i + 1 => if ((reachV n ls (spT n ls ys i) (lnAt ls (ys.getD i 0)).a).any fun y => y == (lnAt ls (ys.getD i 0)).b) = true then spT n ls ys i else spT n ls ys i ++ [ys.getD i 0]
theorem spT_len (n : Int) (ls : List Ln) (ys : List Int) : ∀ i, (spT n ls ys i).length ≤ i
  | 0 => Nat.le_refl _
  | i + 1 => by
    have := spT_len n ls ys i
    rw [spT]; split
    · omega
    · rw [List.length_append]; simp; omega
theorem spT_mem {n : Int} {ls : List Ln} {ys : List Int} : ∀ {i : Nat}, i ≤ ys.length → ∀ x ∈ spT n ls ys i, x ∈ ys
  | 0, _, x, h => by cases h
  | i + 1, hi, x, h => by
    rw [spT] at h
    split at h
    · exact spT_mem (i := i) (by omega) x h
    · rcases List.mem_append.1 h with h | h
      · exact spT_mem (i := i) (by omega) x h
      · rw [List.mem_singleton] at h; rw [h]; exact getD_mem (by omega)
def treK (n : Int) (ls : List Ln) : List Int := spT n ls (ordK ls) ls.length
set_option maxHeartbeats 4000000 in
theorem implSpan_bad_ro (n : Int) (ls : List Ln) (hn : ls.length ≤ 1048576) (h : bkB n ls = false) (k : Nat) : RO Try.prog 31 [.agg (bkL n ls)] k (.tup [.v (.slice none 0 0), .v (.int .i64 1)]) [] k := by
  have b1 : (!bkB n ls) = true := by rw [h]; rfl
  refine RO.ofp Try.func31 Try.ntmps31 rfl (goFn_of Try.func31 rfl (by kernel_rfl)) rfl rfl rfl ?_
  unfold bkL
  ((repeat' (first
    | (show SQ _ _ _ _ _ _ _ _; first | apply sq_nil | (apply q_assign; exact rfl; exact rfl) | (apply q_not; exact rfl; exact rfl))
    | (show SQ _ _ _ _ _ _ _ _; (first | (apply q_ldap; exact rfl; exact rfl; exact (ty rfl); exact rfl; exact rfl; exact (by first | rfl | assumption | ((try simp only [Nat.zero_add]); refine List.getElem?_set_self ?_; (try simp only [List.length_set]); assumption)); exact rfl) | (apply q_box; exact rfl; exact rfl; exact rfl) | (apply q_callU; exact rfl; exact rfl; exact rfl; exact FzL.of rfl; exact ValidBackhaul_ro n ls hn _)); (try simp only [put, rowsOf, plR, List.all_cons, selE, ovr, setH, del, cellsA, splice, isV, List.nil_append, List.cons_append, List.map_cons, List.map_nil, List.length_cons, List.length_nil, List.set_cons_zero, List.set_cons_succ, List.take_succ_cons, List.take_zero, List.take_nil, List.drop_succ_cons, List.drop_zero, List.drop_nil, List.append_nil, List.all_cons, List.all_nil, Bool.and_true, Bool.true_and, Bool.and_false, Bool.false_and, Nat.reduceAdd, Nat.zero_add, Nat.add_zero, Nat.reduceEqDiff, if_true, if_false, reduceIte]))
    | (show AW _ _ _ _ _ _ _ _; first | refine aw_region ?_ | (refine aw_seqk ?_; intro K hK) | (apply aw_cond_t; exact rfl; exact (by assumption)) | refine aw_ret ?_)
    | refine thn_n ?_
    | (refine hK _ _ _ ?_; clear hK K)
    | refine thn_r ?_)); all_goals (repeat (clear hK K)))
  all_goals refine fin_r (fin_p (.r2 _ _ _ _ (.tmp _ _ rfl) (.tmp _ _ rfl)) ?_ rfl rfl rfl)
  all_goals rfl
theorem implSpan_none (n : Int) (ls : List Ln) (hn : ls.length ≤ 1048576) (h32 : ls.length ≤ 32) (h : bkB n ls = true) (hv : (((treK n ls).length : Int) ≠ n - 1)) (k : Nat) : RO Try.prog 31 [.agg (bkL n ls)] k (.tup [.v (.slice none 0 0), .v (.int .i64 3)]) [] k := by
  have b1 : (!bkB n ls) = false := by rw [h]; rfl
  obtain ⟨hN, hL⟩ := bkB_in h
  have hok := ValidBackhaul_ro n ls hn
  have hRe := fun ix frm hr hix hf => reached_ro n ls ix frm hN hn hr hL hix hf
  have hli : (ls.map lnL).length = ls.length := List.length_map _
  have hp0 := part0_len ls.length
  have hS := SortStable_rc n ls hn (part0 ls.length) (by omega) (fun x hx => part0_mem.1 hx)
  rw [hp0] at hS
  have hyl := ordK_len ls
  have hyi := fun i hi => ordK_in (ls := ls) (i := i) hi
  change ∀ bi k, RC _ _ _ _ _ _ [(bi, some ⟨_, _, _, (ordK ls).map inL⟩)] _ at hS
  have hTd : spT n ls (ordK ls) ls.length = treK n ls := rfl
  generalize treK n ls = Tk at *
  generalize ordK ls = ys at *
  have hyml : (ys.map inL).length = ls.length := by rw [List.length_map, hyl]
  refine RO.ofp Try.func31 Try.ntmps31 rfl (goFn_of Try.func31 rfl (by kernel_rfl)) rfl rfl rfl ?_
  unfold bkL at hok hRe ⊢
  unfold stC bkL at hS
  ((repeat' (first
    | (show SQ _ _ _ _ _ _ _ _; apply sq_frzp (t := 1); exact rfl; exact rfl; exact (by first | rfl | exact all_noOwn_map (fun _ => rfl) | assumption | exact hclo); exact (by first | rfl | assumption); exact rfl; (try simp only [put, rowsOf, plR, List.all_cons, selE, ovr, setH, del, cellsA, splice, isV, List.nil_append, List.cons_append, List.map_cons, List.map_nil, List.length_cons, List.length_nil, List.set_cons_zero, List.set_cons_succ, List.take_succ_cons, List.take_zero, List.take_nil, List.drop_succ_cons, List.drop_zero, List.drop_nil, List.append_nil, List.all_cons, List.all_nil, Bool.and_true, Bool.true_and, Bool.and_false, Bool.false_and, Nat.reduceAdd, Nat.zero_add, Nat.add_zero, Nat.reduceEqDiff, if_true, if_false, reduceIte]))
    | (show SQ _ _ _ _ _ _ _ _; first | apply sq_nil | (apply q_move; exact rfl; exact rfl) | (apply q_assign; exact rfl; exact rfl) | (apply q_fieldAddr; exact rfl; exact rfl; exact (ty rfl); exact rfl; exact rfl; exact rfl; exact rfl) | (apply q_not; exact rfl; exact rfl) | (apply q_lend; exact rfl; exact rfl; exact (ty rfl); exact rfl) | (apply q_lenl; exact rfl; exact rfl; exact (ty rfl); exact rfl) | (apply q_ld1d; exact rfl; exact rfl; exact (ty rfl); exact rfl; exact rfl))
    | (show SQ _ _ _ _ _ _ _ _; (first | (apply q_ldad; exact rfl; exact rfl; exact (ty rfl); exact rfl; exact rfl) | (apply q_box; exact rfl; exact rfl; exact rfl) | (apply q_mks; exact rfl; exact rfl; exact rfl; exact (ty rfl); exact rfl; exact (by first | omega | (simp; done) | (simp; omega)); exact (by first | omega | (simp; done) | (simp; omega)); exact (by first | omega | (simp; done) | (simp; omega)); exact (by first | omega | (simp; done) | (simp; omega)); exact rfl; exact rfl) | (apply q_callU; exact rfl; exact rfl; exact rfl; exact FzL.of rfl; exact hok _)); (try simp only [put, rowsOf, plR, List.all_cons, selE, ovr, setH, del, cellsA, splice, isV, List.nil_append, List.cons_append, List.map_cons, List.map_nil, List.length_cons, List.length_nil, List.set_cons_zero, List.set_cons_succ, List.take_succ_cons, List.take_zero, List.take_nil, List.drop_succ_cons, List.drop_zero, List.drop_nil, List.append_nil, List.all_cons, List.all_nil, Bool.and_true, Bool.true_and, Bool.and_false, Bool.false_and, Nat.reduceAdd, Nat.zero_add, Nat.add_zero, Nat.reduceEqDiff, if_true, if_false, reduceIte]))
    | (show AW _ _ _ _ _ _ _ _; first | refine aw_region ?_ | (refine aw_seqk ?_; intro K hK) | refine aw_block ?_ | (apply aw_cond_f; exact rfl; exact (by assumption)) | refine aw_skip ?_)
    | refine thn_n ?_
    | (refine hK _ _ _ ?_; clear hK K))); all_goals (repeat (clear hK K)))
  refine aw_loop (ρ := id) (ι := Nat) (fun i => ([(18, .v (.int .i64 i)), (17, .v (.int .i64 (ls.length : Nat))), (4, .sl 1 0 ls.length), (1, .dptr [.v (.int .i64 n), .dsl 4 (ls.map lnL)])], [(1, ⟨2, 1, true, (ramp (fun j : Nat => (j : Int)) (List.replicate ls.length 0) i).map inL⟩)], 2))
    (fun i => i ≤ ls.length) (fun i => ls.length - i) 0 (Nat.zero_le _) ⟨⟨lk_i rfl rfl, lk_i rfl (by simp), lk_s rfl rfl (by simp) rfl, lk_p rfl rfl, trivial⟩, ⟨lkb rfl rfl rfl (by (try dsimp only); simp only [ramp_zero, List.length_map, List.map_replicate, Int.toNat_natCast]; rfl) rfl, trivial⟩, by rfl, pin_0⟩ ?_
  intro i hi
  by_cases c2 : i < ls.length
  · have b2 : decide ((i : Int) < (ls.length : Int)) = true := by simpa using c2
    have hw3 : IntKind.i64.wrap ((i : Int) + 1) = ((i + 1 : Nat) : Int) := by rw [IntWalk.i64_in _ (by omega)]; omega
    have hrg := ramp_get (f := fun j : Nat => (j : Int)) (xs := List.replicate ls.length 0) (i := i) (by simpa using c2)
    have hr2 : ((ramp (fun j : Nat => (j : Int)) (List.replicate ls.length 0) i).map inL)[0 + ((i : Int)).toNat]? = some (inL 0) := by
      rw [List.getElem?_map, show 0 + ((i : Int)).toNat = i by omega, hrg]; simp
    rw [inL_eq] at hr2
    ((repeat' (first
    | (show SQ _ _ _ _ _ _ _ _; first | apply sq_nil | (apply q_move; exact rfl; exact rfl) | (apply q_assign; exact rfl; exact rfl) | (apply q_add; exact rfl; exact rfl; exact rfl) | (apply q_lss; exact rfl; exact rfl; exact rfl) | (apply q_ixl; exact rfl; exact rfl; exact rfl; exact (ty rfl); exact rfl; exact rfl; exact rfl; exact (by first | omega | (simp; done) | (simp; omega)); exact (by first | omega | (simp; done) | (simp; omega))))
    | (show SQ _ _ _ _ _ _ _ _; (first | (apply q_store; exact rfl; exact rfl; exact (ty rfl); exact rfl; exact (by first | rfl | assumption | ((try simp only [Nat.zero_add]); refine List.getElem?_set_self ?_; (try simp only [List.length_set]); assumption)); exact rfl; exact rfl; exact rfl)); (try simp only [put, rowsOf, plR, List.all_cons, selE, ovr, setH, del, cellsA, splice, isV, List.nil_append, List.cons_append, List.map_cons, List.map_nil, List.length_cons, List.length_nil, List.set_cons_zero, List.set_cons_succ, List.take_succ_cons, List.take_zero, List.take_nil, List.drop_succ_cons, List.drop_zero, List.drop_nil, List.append_nil, List.all_cons, List.all_nil, Bool.and_true, Bool.true_and, Bool.and_false, Bool.false_and, Nat.reduceAdd, Nat.zero_add, Nat.add_zero, Nat.reduceEqDiff, if_true, if_false, reduceIte]))
    | (show AW _ _ _ _ _ _ _ _; first | refine aw_region ?_ | (refine aw_seqk ?_; intro K hK) | refine aw_block ?_ | (apply aw_cond_t; exact rfl; exact (by assumption)) | refine aw_skip ?_)
    | refine thn_n ?_
    | (refine hK _ _ _ ?_; clear hK K)
    | refine inb_n ?_)); all_goals (repeat (clear hK K)))
    all_goals (refine ⟨i + 1, id, c2, by omega, ?_⟩; (try dsimp only); rw [← hw3]; exact ⟨by (repeat (refine ⟨by first | exact lk_i rfl rfl | exact lk_s rfl rfl rfl rfl | exact lk_p rfl rfl, ?_⟩)); exact trivial, by (repeat (refine ⟨by first | exact lkb rfl rfl rfl (by rw [← ramp_set (by simpa using c2), List.map_set]; simp; rfl) rfl, ?_⟩)); exact trivial, by rfl, by exact pin_0⟩)
  have b2 : decide ((i : Int) < (ls.length : Int)) = false := by simpa using c2
  obtain rfl : i = ls.length := by omega
  have hrf : ramp (fun j : Nat => (j : Int)) (List.replicate ls.length 0) ls.length = part0 ls.length := by
    have := ramp_full (f := fun j : Nat => (j : Int)) (xs := List.replicate ls.length 0)
    simp only [List.length_replicate] at this; rw [this]; rfl
  rw [hrf]
  ((repeat' (first
    | (show SQ _ _ _ _ _ _ _ _; first | apply sq_nil | (apply q_move; exact rfl; exact rfl) | (apply q_assign; exact rfl; exact rfl) | (apply q_lenl; exact rfl; exact rfl; exact (ty rfl); exact rfl) | (apply q_lss; exact rfl; exact rfl; exact rfl) | (apply q_mkf; exact rfl; exact rfl))
    | (show SQ _ _ _ _ _ _ _ _; (first | (apply q_callC; exact rfl; exact rfl; exact rfl; exact hS _ _; (focus ((repeat (first | exact trivial | refine ⟨by first | exact rfl | assumption, ?_⟩)); done)); skip)); (try simp only [put, rowsOf, plR, List.all_cons, selE, ovr, setH, del, cellsA, splice, isV, List.nil_append, List.cons_append, List.map_cons, List.map_nil, List.length_cons, List.length_nil, List.set_cons_zero, List.set_cons_succ, List.take_succ_cons, List.take_zero, List.take_nil, List.drop_succ_cons, List.drop_zero, List.drop_nil, List.append_nil, List.all_cons, List.all_nil, Bool.and_true, Bool.true_and, Bool.and_false, Bool.false_and, Nat.reduceAdd, Nat.zero_add, Nat.add_zero, Nat.reduceEqDiff, if_true, if_false, reduceIte]))
    | (show AW _ _ _ _ _ _ _ _; first | refine aw_region ?_ | (refine aw_seqk ?_; intro K hK) | refine aw_block ?_ | (apply aw_cond_f; exact rfl; exact (by assumption)) | refine aw_exit ?_)
    | refine thn_n ?_
    | (refine hK _ _ _ ?_; clear hK K)
    | refine thn_e ?_
    | refine inb_same ?_
    | (clear hK K; refine hK _ _ _ ?_; clear hK K))); all_goals (repeat (clear hK K)))
  refine aw_nil (t := 6) 2 1 rfl ?_
  refine aw_loop (ρ := id) (ι := Nat) (fun i => ([(31, .v (.int .i64 i)), (30, .v (.int .i64 (ls.length : Nat))), (29, .sl 1 0 ls.length), (6, .sl 2 0 (spT n ls ys i).length), (1, .dptr [.v (.int .i64 n), .dsl 4 (ls.map lnL)])], [(1, ⟨2, 1, true, ys.map inL⟩), (2, ⟨2, 1, true, (spT n ls ys i).map inL⟩)], 3))
    (fun i => i ≤ ls.length) (fun i => ls.length - i) 0 (Nat.zero_le _) ⟨⟨lk_i rfl rfl, lk_i rfl rfl, lk_s rfl rfl rfl rfl, lk_s rfl rfl rfl rfl, lk_p rfl rfl, trivial⟩, by (repeat (refine ⟨by first | exact ⟨rfl, rfl, rfl⟩ | exact lkb rfl rfl rfl rfl rfl | exact lkn rfl rfl (by rfl) (by rfl) rfl, ?_⟩)); exact trivial, by rfl, pin_0⟩ ?_
  intro i hi
  have hlen := spT_len n ls ys i
  have hmem := spT_mem (n := n) (ls := ls) (ys := ys) (i := i) (by omega)
  have hml : ((spT n ls ys i).map inL).length = (spT n ls ys i).length := List.length_map _
  by_cases c2 : i < ls.length
  · have b2 : decide ((i : Int) < (ls.length : Int)) = true := by simpa using c2
    have hiy : i < ys.length := by omega
    have hyx : ys.getD i 0 = ys[i] := by simp [List.getD, hiy]
    have hyr := inL_get (xs := ys) (i := i) hiy
    obtain ⟨y0, y1⟩ := hyi i hiy
    have hsu : spT n ls ys (i + 1) = if ((reachV n ls (spT n ls ys i) (lnAt ls (ys.getD i 0)).a).any fun y => y == (lnAt ls (ys.getD i 0)).b) = true then spT n ls ys i else spT n ls ys i ++ [ys.getD i 0] := rfl
    rw [← hyx] at y0 y1
    obtain ⟨t, ht⟩ : ∃ t : Nat, ys.getD i 0 = (t : Int) := ⟨(ys.getD i 0).toNat, by omega⟩
    rw [ht] at hyr hsu
    have htl : t < ls.length := by omega
    have hlt : lnAt ls (t : Int) = ls[t] := by simp [lnAt, List.getD, htl]
    rw [hlt] at hsu
    have hrow2 : (ls.map lnL)[((t : Int)).toNat]? = some (lnL ls[t]) := by simp [htl]
    rw [lnL_eq] at hrow2
    obtain ⟨a0, a1, d0, d1⟩ := hL ls[t] (List.getElem_mem htl)
    have hix : ∀ x ∈ spT n ls ys i, 0 ≤ x ∧ x < ls.length := fun x hx => by
      obtain ⟨j, hj, rfl⟩ := List.getElem_of_mem (hmem x hx); exact hyi j hj
    have hR := hRe (spT n ls ys i) ls[t].a (by omega) hix ⟨a0, a1⟩
    have hgd := ((reachV_spec (ix := spT n ls ys i) hL hix ⟨a0, a1⟩).1).le (by omega)
    have hw3 : IntKind.i64.wrap ((i : Int) + 1) = ((i + 1 : Nat) : Int) := by rw [IntWalk.i64_in _ (by omega)]; omega
    generalize hNx : spT n ls ys (i + 1) = Nx at *
    generalize spT n ls ys i = ix at *
    generalize reachV n ls ix ls[t].a = rv at *
    have hC := slContains_ro rv (rv.map inL) ls[t].b rfl (by omega)
    have hml3 : (rv.map inL).length = rv.length := List.length_map _
    ((repeat' (first
    | (show SQ _ _ _ _ _ _ _ _; first | apply sq_nil | (apply q_move; exact rfl; exact rfl) | (apply q_assign; exact rfl; exact rfl) | (apply q_add; exact rfl; exact rfl; exact rfl) | (apply q_lss; exact rfl; exact rfl; exact rfl) | (apply q_ixl; exact rfl; exact rfl; exact rfl; exact (ty rfl); exact rfl; exact rfl; exact rfl; exact (by first | omega | (simp; done) | (simp; omega)); exact (by first | omega | (simp; done) | (simp; omega))) | (apply q_ld1p; exact rfl; exact rfl; exact (ty rfl); exact rfl; exact rfl; exact (by first | rfl | assumption | ((try simp only [Nat.zero_add]); refine List.getElem?_set_self ?_; (try simp only [List.length_set]); assumption)); exact rfl))
    | (show SQ _ _ _ _ _ _ _ _; (first | (apply q_buildn; exact rfl; exact (ty rfl); exact rfl; exact rfl; exact rfl; exact rfl; exact rfl; exact rfl; exact rfl) | (apply q_apo_s; exact rfl; exact rfl; exact rfl; exact (ty rfl); exact rfl; exact rfl; exact (by first | omega | (simp; done) | (simp; omega)); exact (by first | exact List.take_of_length_le (by first | omega | (simp; done) | (simp; omega)) | rfl); exact (ty rfl); exact rfl; exact rfl; exact (by first | omega | (simp; done) | (simp; omega)); exact (by first | exact dt_full (by first | omega | (simp; done) | (simp; omega)) | assumption | rfl); exact rfl; exact (by first | omega | (simp; done) | (simp; omega)); exact (by first | omega | (simp; done) | (simp; omega)); exact (by first | assumption | exact rfl))); (try simp only [put, rowsOf, plR, List.all_cons, selE, ovr, setH, del, cellsA, splice, isV, List.nil_append, List.cons_append, List.map_cons, List.map_nil, List.length_cons, List.length_nil, List.set_cons_zero, List.set_cons_succ, List.take_succ_cons, List.take_zero, List.take_nil, List.drop_succ_cons, List.drop_zero, List.drop_nil, List.append_nil, List.all_cons, List.all_nil, Bool.and_true, Bool.true_and, Bool.and_false, Bool.false_and, Nat.reduceAdd, Nat.zero_add, Nat.add_zero, Nat.reduceEqDiff, if_true, if_false, reduceIte]))
    | (show DE _ _ _ _ _ _ _ _ _ _ _ _; first | (apply e_move; exact rfl; exact rfl; exact rfl) | (apply e_fieldAddr; exact rfl; exact rfl; exact (ty rfl); exact rfl; exact rfl; exact rfl; exact rfl; exact rfl) | (apply e_not; exact rfl; exact rfl; exact rfl) | (apply e_ixd; exact rfl; exact rfl; exact rfl; exact (ty rfl); exact rfl; exact (by first | omega | (simp; done) | (simp; omega)); exact (by first | omega | (simp; done) | (simp; omega)); exact (by first | rfl | assumption); exact rfl) | (apply e_ld1d; exact rfl; exact rfl; exact (ty rfl); exact rfl; exact rfl; exact rfl))
    | (show DE _ _ _ _ _ _ _ _ _ _ _ _; (first | (apply dr_nil; exact trivial) | (apply e_ldad; exact rfl; exact rfl; exact (ty rfl); exact rfl; exact rfl; exact rfl) | (apply e_callU; exact rfl; exact rfl; exact rfl; rotate_left; exact hR _; exact rfl; rotate_right; focus ((repeat' (first | exact FzL.nil | exact (by assumption : FzC _) _ | refine FzL.cons ?_ ?_ | exact Fz.of rfl | exact Fz.nil | exact Fz.emp | (apply Fz.fnC; assumption) | (apply Fz.sl2; exact rfl; exact (by first | omega | (simp; done) | (simp; omega)); first | exact rfl | exact dt_full (by first | omega | (simp; done) | (simp; omega)) | assumption) | apply Fz.agg | (apply Fz.ptrL; exact rfl; first | exact rfl | assumption) | apply Fz.fnL)); done)) | (apply e_callU; exact rfl; exact rfl; exact rfl; rotate_left; exact hC _; exact rfl; rotate_right; focus ((repeat' (first | exact FzL.nil | exact (by assumption : FzC _) _ | refine FzL.cons ?_ ?_ | exact Fz.of rfl | exact Fz.nil | exact Fz.emp | (apply Fz.fnC; assumption) | (apply Fz.sl2; exact rfl; exact (by first | omega | (simp; done) | (simp; omega)); first | exact rfl | exact dt_full (by first | omega | (simp; done) | (simp; omega)) | assumption) | apply Fz.agg | (apply Fz.ptrL; exact rfl; first | exact rfl | assumption) | apply Fz.fnL)); done))); (try simp only [put, rowsOf, plR, List.all_cons, selE, ovr, setH, del, cellsA, splice, isV, List.nil_append, List.cons_append, List.map_cons, List.map_nil, List.length_cons, List.length_nil, List.set_cons_zero, List.set_cons_succ, List.take_succ_cons, List.take_zero, List.take_nil, List.drop_succ_cons, List.drop_zero, List.drop_nil, List.append_nil, List.all_cons, List.all_nil, Bool.and_true, Bool.true_and, Bool.and_false, Bool.false_and, Nat.reduceAdd, Nat.zero_add, Nat.add_zero, Nat.reduceEqDiff, if_true, if_false, reduceIte]))
    | (show AW _ _ _ _ _ _ _ _; first | refine aw_region ?_ | (refine aw_seqk ?_; intro K hK) | refine aw_block ?_ | (apply aw_cond_t; exact rfl; exact (by assumption)) | refine aw_skip ?_ | refine aw_drawE (id := 14) [0, 0, 0, 4, 0, 28, 60, 124, 255, 0, 512, 0, 3584, 7680, 15872, 32767, 65535] [1, 0, 0, 1, 0, 0, 0, 1, 1, 0, 1, 0, 0, 0, 1, 1, 0] mixed (by kernel_rfl) ?_ | (apply aw_ite; exact rfl; all_goals intro h))
    | refine thn_n ?_
    | (refine hK _ _ _ ?_; clear hK K)
    | refine inb_n ?_)); all_goals (repeat (clear hK K)))
    · have hb : (rv.any fun y => y == ls[t].b) = false := by have h := ‹(!rv.any fun y => y == ls[t].b) = true›; rwa [Bool.not_eq_true'] at h
      rw [if_neg (by rw [hb]; simp)] at hsu
      refine ⟨i + 1, fun j => [0, 1, 5].getD j 0, c2, by omega, ?_⟩
      (try dsimp only); rw [hNx, hsu, List.map_append, List.length_append, ← hw3]
      exact ⟨by (repeat (refine ⟨by first | exact lk_i rfl rfl | exact lk_s rfl rfl rfl rfl | exact lk_p rfl rfl, ?_⟩)); exact trivial, by (repeat (refine ⟨by first | exact ⟨rfl, rfl, rfl⟩, ?_⟩)); exact trivial, by rfl, by exact pin_0⟩
    · have hb : (rv.any fun y => y == ls[t].b) = true := by have h := ‹(!rv.any fun y => y == ls[t].b) = false›; rwa [Bool.not_eq_false'] at h
      rw [if_pos hb] at hsu
      refine ⟨i + 1, id, c2, by omega, ?_⟩
      (try dsimp only); rw [hNx, hsu, ← hw3]
      exact ⟨by (repeat (refine ⟨by first | exact lk_i rfl rfl | exact lk_s rfl rfl rfl rfl | exact lk_p rfl rfl, ?_⟩)); exact trivial, by (repeat (refine ⟨by first | exact ⟨rfl, rfl, rfl⟩, ?_⟩)); exact trivial, by rfl, by exact pin_0⟩
  have b2 : decide ((i : Int) < (ls.length : Int)) = false := by simpa using c2
  obtain rfl : i = ls.length := by omega
  rw [hTd] at hlen hml hmem ⊢
  have hSo := So.Sort_rc 2 Tk (by omega)
  have hw4 : IntKind.i64.wrap (n - 1) = n - 1 := IntWalk.i64_in _ (by omega)
  have b3 : ((Tk.length : Int) != IntKind.i64.wrap (n - 1)) = true := by rw [hw4]; simpa using hv
  ((repeat' (first
    | (show SQ _ _ _ _ _ _ _ _; first | apply sq_nil | (apply q_move; exact rfl; exact rfl) | (apply q_assign; exact rfl; exact rfl) | (apply q_fieldAddr; exact rfl; exact rfl; exact (ty rfl); exact rfl; exact rfl; exact rfl; exact rfl) | (apply q_lenl; exact rfl; exact rfl; exact (ty rfl); exact rfl) | (apply q_sub; exact rfl; exact rfl; exact rfl) | (apply q_neq; exact rfl; exact rfl; exact rfl) | (apply q_lss; exact rfl; exact rfl; exact rfl) | (apply q_ld1d; exact rfl; exact rfl; exact (ty rfl); exact rfl; exact rfl))
    | (show AW _ _ _ _ _ _ _ _; first | refine aw_region ?_ | (refine aw_seqk ?_; intro K hK) | (apply aw_cond_t; exact rfl; exact (by assumption)) | (apply aw_cond_f; exact rfl; exact (by assumption)) | refine aw_ret ?_ | refine aw_exit ?_)
    | refine thn_n ?_
    | (refine hK _ _ _ ?_; clear hK K)
    | refine thn_e ?_
    | refine thn_r ?_
    | refine inb_same ?_
    | (clear hK K; refine hK _ _ _ ?_; clear hK K))); all_goals (repeat (clear hK K)))
  all_goals ((refine fin_r (fin_p (.r2 _ _ _ _ (.tmp _ _ rfl) (.tmp _ _ rfl)) ?_ rfl rfl rfl); rfl))
theorem implSpan_okR (n : Int) (ls : List Ln) (hn : ls.length ≤ 1048576) (h32 : ls.length ≤ 32) (h : bkB n ls = true) (hv : (((treK n ls).length : Int) = n - 1)) (k : Nat) : RO Try.prog 31 [.agg (bkL n ls)] k (.tup [.sl k 0 (treK n ls).length, .v (.int .i64 0)]) [(k, ⟨2, 1, true, (So.srt (treK n ls)).map inL⟩)] (k + 1) := by
  have b1 : (!bkB n ls) = false := by rw [h]; rfl
  obtain ⟨hN, hL⟩ := bkB_in h
  have hok := ValidBackhaul_ro n ls hn
  have hRe := fun ix frm hr hix hf => reached_ro n ls ix frm hN hn hr hL hix hf
  have hli : (ls.map lnL).length = ls.length := List.length_map _
  have hp0 := part0_len ls.length
  have hS := SortStable_rc n ls hn (part0 ls.length) (by omega) (fun x hx => part0_mem.1 hx)
  rw [hp0] at hS
  have hyl := ordK_len ls
  have hyi := fun i hi => ordK_in (ls := ls) (i := i) hi
  change ∀ bi k, RC _ _ _ _ _ _ [(bi, some ⟨_, _, _, (ordK ls).map inL⟩)] _ at hS
  have hTd : spT n ls (ordK ls) ls.length = treK n ls := rfl
  generalize treK n ls = Tk at *
  generalize ordK ls = ys at *
  have hyml : (ys.map inL).length = ls.length := by rw [List.length_map, hyl]
  refine RO.ofm (.tup [.sl 0 0 Tk.length, .v (.int .i64 0)]) ([(0, ⟨2, 1, true, (So.srt Tk).map inL⟩)]) 1 Try.func31 Try.ntmps31 rfl (goFn_of Try.func31 rfl (by kernel_rfl)) rfl rfl (by simp [renA, renL]) (by simp [shH, renB]) rfl ?_
  unfold bkL at hok hRe ⊢
  unfold stC bkL at hS
  ((repeat' (first
    | (show SQ _ _ _ _ _ _ _ _; apply sq_frzp (t := 1); exact rfl; exact rfl; exact (by first | rfl | exact all_noOwn_map (fun _ => rfl) | assumption | exact hclo); exact (by first | rfl | assumption); exact rfl; (try simp only [put, rowsOf, plR, List.all_cons, selE, ovr, setH, del, cellsA, splice, isV, List.nil_append, List.cons_append, List.map_cons, List.map_nil, List.length_cons, List.length_nil, List.set_cons_zero, List.set_cons_succ, List.take_succ_cons, List.take_zero, List.take_nil, List.drop_succ_cons, List.drop_zero, List.drop_nil, List.append_nil, List.all_cons, List.all_nil, Bool.and_true, Bool.true_and, Bool.and_false, Bool.false_and, Nat.reduceAdd, Nat.zero_add, Nat.add_zero, Nat.reduceEqDiff, if_true, if_false, reduceIte]))
    | (show SQ _ _ _ _ _ _ _ _; first | apply sq_nil | (apply q_move; exact rfl; exact rfl) | (apply q_assign; exact rfl; exact rfl) | (apply q_fieldAddr; exact rfl; exact rfl; exact (ty rfl); exact rfl; exact rfl; exact rfl; exact rfl) | (apply q_not; exact rfl; exact rfl) | (apply q_lend; exact rfl; exact rfl; exact (ty rfl); exact rfl) | (apply q_lenl; exact rfl; exact rfl; exact (ty rfl); exact rfl) | (apply q_ld1d; exact rfl; exact rfl; exact (ty rfl); exact rfl; exact rfl))
    | (show SQ _ _ _ _ _ _ _ _; (first | (apply q_ldad; exact rfl; exact rfl; exact (ty rfl); exact rfl; exact rfl) | (apply q_box; exact rfl; exact rfl; exact rfl) | (apply q_mks; exact rfl; exact rfl; exact rfl; exact (ty rfl); exact rfl; exact (by first | omega | (simp; done) | (simp; omega)); exact (by first | omega | (simp; done) | (simp; omega)); exact (by first | omega | (simp; done) | (simp; omega)); exact (by first | omega | (simp; done) | (simp; omega)); exact rfl; exact rfl) | (apply q_callU; exact rfl; exact rfl; exact rfl; exact FzL.of rfl; exact hok _)); (try simp only [put, rowsOf, plR, List.all_cons, selE, ovr, setH, del, cellsA, splice, isV, List.nil_append, List.cons_append, List.map_cons, List.map_nil, List.length_cons, List.length_nil, List.set_cons_zero, List.set_cons_succ, List.take_succ_cons, List.take_zero, List.take_nil, List.drop_succ_cons, List.drop_zero, List.drop_nil, List.append_nil, List.all_cons, List.all_nil, Bool.and_true, Bool.true_and, Bool.and_false, Bool.false_and, Nat.reduceAdd, Nat.zero_add, Nat.add_zero, Nat.reduceEqDiff, if_true, if_false, reduceIte]))
    | (show AW _ _ _ _ _ _ _ _; first | refine aw_region ?_ | (refine aw_seqk ?_; intro K hK) | refine aw_block ?_ | (apply aw_cond_f; exact rfl; exact (by assumption)) | refine aw_skip ?_)
    | refine thn_n ?_
    | (refine hK _ _ _ ?_; clear hK K))); all_goals (repeat (clear hK K)))
  refine aw_loop (ρ := id) (ι := Nat) (fun i => ([(18, .v (.int .i64 i)), (17, .v (.int .i64 (ls.length : Nat))), (4, .sl 1 0 ls.length), (1, .dptr [.v (.int .i64 n), .dsl 4 (ls.map lnL)])], [(1, ⟨2, 1, true, (ramp (fun j : Nat => (j : Int)) (List.replicate ls.length 0) i).map inL⟩)], 2))
    (fun i => i ≤ ls.length) (fun i => ls.length - i) 0 (Nat.zero_le _) ⟨⟨lk_i rfl rfl, lk_i rfl (by simp), lk_s rfl rfl (by simp) rfl, lk_p rfl rfl, trivial⟩, ⟨lkb rfl rfl rfl (by (try dsimp only); simp only [ramp_zero, List.length_map, List.map_replicate, Int.toNat_natCast]; rfl) rfl, trivial⟩, by rfl, pin_0⟩ ?_
  intro i hi
  by_cases c2 : i < ls.length
  · have b2 : decide ((i : Int) < (ls.length : Int)) = true := by simpa using c2
    have hw3 : IntKind.i64.wrap ((i : Int) + 1) = ((i + 1 : Nat) : Int) := by rw [IntWalk.i64_in _ (by omega)]; omega
    have hrg := ramp_get (f := fun j : Nat => (j : Int)) (xs := List.replicate ls.length 0) (i := i) (by simpa using c2)
    have hr2 : ((ramp (fun j : Nat => (j : Int)) (List.replicate ls.length 0) i).map inL)[0 + ((i : Int)).toNat]? = some (inL 0) := by
      rw [List.getElem?_map, show 0 + ((i : Int)).toNat = i by omega, hrg]; simp
    rw [inL_eq] at hr2
    ((repeat' (first
    | (show SQ _ _ _ _ _ _ _ _; first | apply sq_nil | (apply q_move; exact rfl; exact rfl) | (apply q_assign; exact rfl; exact rfl) | (apply q_add; exact rfl; exact rfl; exact rfl) | (apply q_lss; exact rfl; exact rfl; exact rfl) | (apply q_ixl; exact rfl; exact rfl; exact rfl; exact (ty rfl); exact rfl; exact rfl; exact rfl; exact (by first | omega | (simp; done) | (simp; omega)); exact (by first | omega | (simp; done) | (simp; omega))))
    | (show SQ _ _ _ _ _ _ _ _; (first | (apply q_store; exact rfl; exact rfl; exact (ty rfl); exact rfl; exact (by first | rfl | assumption | ((try simp only [Nat.zero_add]); refine List.getElem?_set_self ?_; (try simp only [List.length_set]); assumption)); exact rfl; exact rfl; exact rfl)); (try simp only [put, rowsOf, plR, List.all_cons, selE, ovr, setH, del, cellsA, splice, isV, List.nil_append, List.cons_append, List.map_cons, List.map_nil, List.length_cons, List.length_nil, List.set_cons_zero, List.set_cons_succ, List.take_succ_cons, List.take_zero, List.take_nil, List.drop_succ_cons, List.drop_zero, List.drop_nil, List.append_nil, List.all_cons, List.all_nil, Bool.and_true, Bool.true_and, Bool.and_false, Bool.false_and, Nat.reduceAdd, Nat.zero_add, Nat.add_zero, Nat.reduceEqDiff, if_true, if_false, reduceIte]))
    | (show AW _ _ _ _ _ _ _ _; first | refine aw_region ?_ | (refine aw_seqk ?_; intro K hK) | refine aw_block ?_ | (apply aw_cond_t; exact rfl; exact (by assumption)) | refine aw_skip ?_)
    | refine thn_n ?_
    | (refine hK _ _ _ ?_; clear hK K)
    | refine inb_n ?_)); all_goals (repeat (clear hK K)))
    all_goals (refine ⟨i + 1, id, c2, by omega, ?_⟩; (try dsimp only); rw [← hw3]; exact ⟨by (repeat (refine ⟨by first | exact lk_i rfl rfl | exact lk_s rfl rfl rfl rfl | exact lk_p rfl rfl, ?_⟩)); exact trivial, by (repeat (refine ⟨by first | exact lkb rfl rfl rfl (by rw [← ramp_set (by simpa using c2), List.map_set]; simp; rfl) rfl, ?_⟩)); exact trivial, by rfl, by exact pin_0⟩)
  have b2 : decide ((i : Int) < (ls.length : Int)) = false := by simpa using c2
  obtain rfl : i = ls.length := by omega
  have hrf : ramp (fun j : Nat => (j : Int)) (List.replicate ls.length 0) ls.length = part0 ls.length := by
    have := ramp_full (f := fun j : Nat => (j : Int)) (xs := List.replicate ls.length 0)
    simp only [List.length_replicate] at this; rw [this]; rfl
  rw [hrf]
  ((repeat' (first
    | (show SQ _ _ _ _ _ _ _ _; first | apply sq_nil | (apply q_move; exact rfl; exact rfl) | (apply q_assign; exact rfl; exact rfl) | (apply q_lenl; exact rfl; exact rfl; exact (ty rfl); exact rfl) | (apply q_lss; exact rfl; exact rfl; exact rfl) | (apply q_mkf; exact rfl; exact rfl))
    | (show SQ _ _ _ _ _ _ _ _; (first | (apply q_callC; exact rfl; exact rfl; exact rfl; exact hS _ _; (focus ((repeat (first | exact trivial | refine ⟨by first | exact rfl | assumption, ?_⟩)); done)); skip)); (try simp only [put, rowsOf, plR, List.all_cons, selE, ovr, setH, del, cellsA, splice, isV, List.nil_append, List.cons_append, List.map_cons, List.map_nil, List.length_cons, List.length_nil, List.set_cons_zero, List.set_cons_succ, List.take_succ_cons, List.take_zero, List.take_nil, List.drop_succ_cons, List.drop_zero, List.drop_nil, List.append_nil, List.all_cons, List.all_nil, Bool.and_true, Bool.true_and, Bool.and_false, Bool.false_and, Nat.reduceAdd, Nat.zero_add, Nat.add_zero, Nat.reduceEqDiff, if_true, if_false, reduceIte]))
    | (show AW _ _ _ _ _ _ _ _; first | refine aw_region ?_ | (refine aw_seqk ?_; intro K hK) | refine aw_block ?_ | (apply aw_cond_f; exact rfl; exact (by assumption)) | refine aw_exit ?_)
    | refine thn_n ?_
    | (refine hK _ _ _ ?_; clear hK K)
    | refine thn_e ?_
    | refine inb_same ?_
    | (clear hK K; refine hK _ _ _ ?_; clear hK K))); all_goals (repeat (clear hK K)))
  refine aw_nil (t := 6) 2 1 rfl ?_
  refine aw_loop (ρ := id) (ι := Nat) (fun i => ([(31, .v (.int .i64 i)), (30, .v (.int .i64 (ls.length : Nat))), (29, .sl 1 0 ls.length), (6, .sl 2 0 (spT n ls ys i).length), (1, .dptr [.v (.int .i64 n), .dsl 4 (ls.map lnL)])], [(1, ⟨2, 1, true, ys.map inL⟩), (2, ⟨2, 1, true, (spT n ls ys i).map inL⟩)], 3))
    (fun i => i ≤ ls.length) (fun i => ls.length - i) 0 (Nat.zero_le _) ⟨⟨lk_i rfl rfl, lk_i rfl rfl, lk_s rfl rfl rfl rfl, lk_s rfl rfl rfl rfl, lk_p rfl rfl, trivial⟩, by (repeat (refine ⟨by first | exact ⟨rfl, rfl, rfl⟩ | exact lkb rfl rfl rfl rfl rfl | exact lkn rfl rfl (by rfl) (by rfl) rfl, ?_⟩)); exact trivial, by rfl, pin_0⟩ ?_
  intro i hi
  have hlen := spT_len n ls ys i
  have hmem := spT_mem (n := n) (ls := ls) (ys := ys) (i := i) (by omega)
  have hml : ((spT n ls ys i).map inL).length = (spT n ls ys i).length := List.length_map _
  by_cases c2 : i < ls.length
  · have b2 : decide ((i : Int) < (ls.length : Int)) = true := by simpa using c2
    have hiy : i < ys.length := by omega
    have hyx : ys.getD i 0 = ys[i] := by simp [List.getD, hiy]
    have hyr := inL_get (xs := ys) (i := i) hiy
    obtain ⟨y0, y1⟩ := hyi i hiy
    have hsu : spT n ls ys (i + 1) = if ((reachV n ls (spT n ls ys i) (lnAt ls (ys.getD i 0)).a).any fun y => y == (lnAt ls (ys.getD i 0)).b) = true then spT n ls ys i else spT n ls ys i ++ [ys.getD i 0] := rfl
    rw [← hyx] at y0 y1
    obtain ⟨t, ht⟩ : ∃ t : Nat, ys.getD i 0 = (t : Int) := ⟨(ys.getD i 0).toNat, by omega⟩
    rw [ht] at hyr hsu
    have htl : t < ls.length := by omega
    have hlt : lnAt ls (t : Int) = ls[t] := by simp [lnAt, List.getD, htl]
    rw [hlt] at hsu
    have hrow2 : (ls.map lnL)[((t : Int)).toNat]? = some (lnL ls[t]) := by simp [htl]
    rw [lnL_eq] at hrow2
    obtain ⟨a0, a1, d0, d1⟩ := hL ls[t] (List.getElem_mem htl)
    have hix : ∀ x ∈ spT n ls ys i, 0 ≤ x ∧ x < ls.length := fun x hx => by
      obtain ⟨j, hj, rfl⟩ := List.getElem_of_mem (hmem x hx); exact hyi j hj
    have hR := hRe (spT n ls ys i) ls[t].a (by omega) hix ⟨a0, a1⟩
    have hgd := ((reachV_spec (ix := spT n ls ys i) hL hix ⟨a0, a1⟩).1).le (by omega)
    have hw3 : IntKind.i64.wrap ((i : Int) + 1) = ((i + 1 : Nat) : Int) := by rw [IntWalk.i64_in _ (by omega)]; omega
    generalize hNx : spT n ls ys (i + 1) = Nx at *
    generalize spT n ls ys i = ix at *
    generalize reachV n ls ix ls[t].a = rv at *
    have hC := slContains_ro rv (rv.map inL) ls[t].b rfl (by omega)
    have hml3 : (rv.map inL).length = rv.length := List.length_map _
    ((repeat' (first
    | (show SQ _ _ _ _ _ _ _ _; first | apply sq_nil | (apply q_move; exact rfl; exact rfl) | (apply q_assign; exact rfl; exact rfl) | (apply q_add; exact rfl; exact rfl; exact rfl) | (apply q_lss; exact rfl; exact rfl; exact rfl) | (apply q_ixl; exact rfl; exact rfl; exact rfl; exact (ty rfl); exact rfl; exact rfl; exact rfl; exact (by first | omega | (simp; done) | (simp; omega)); exact (by first | omega | (simp; done) | (simp; omega))) | (apply q_ld1p; exact rfl; exact rfl; exact (ty rfl); exact rfl; exact rfl; exact (by first | rfl | assumption | ((try simp only [Nat.zero_add]); refine List.getElem?_set_self ?_; (try simp only [List.length_set]); assumption)); exact rfl))
    | (show SQ _ _ _ _ _ _ _ _; (first | (apply q_buildn; exact rfl; exact (ty rfl); exact rfl; exact rfl; exact rfl; exact rfl; exact rfl; exact rfl; exact rfl) | (apply q_apo_s; exact rfl; exact rfl; exact rfl; exact (ty rfl); exact rfl; exact rfl; exact (by first | omega | (simp; done) | (simp; omega)); exact (by first | exact List.take_of_length_le (by first | omega | (simp; done) | (simp; omega)) | rfl); exact (ty rfl); exact rfl; exact rfl; exact (by first | omega | (simp; done) | (simp; omega)); exact (by first | exact dt_full (by first | omega | (simp; done) | (simp; omega)) | assumption | rfl); exact rfl; exact (by first | omega | (simp; done) | (simp; omega)); exact (by first | omega | (simp; done) | (simp; omega)); exact (by first | assumption | exact rfl))); (try simp only [put, rowsOf, plR, List.all_cons, selE, ovr, setH, del, cellsA, splice, isV, List.nil_append, List.cons_append, List.map_cons, List.map_nil, List.length_cons, List.length_nil, List.set_cons_zero, List.set_cons_succ, List.take_succ_cons, List.take_zero, List.take_nil, List.drop_succ_cons, List.drop_zero, List.drop_nil, List.append_nil, List.all_cons, List.all_nil, Bool.and_true, Bool.true_and, Bool.and_false, Bool.false_and, Nat.reduceAdd, Nat.zero_add, Nat.add_zero, Nat.reduceEqDiff, if_true, if_false, reduceIte]))
    | (show DE _ _ _ _ _ _ _ _ _ _ _ _; first | (apply e_move; exact rfl; exact rfl; exact rfl) | (apply e_fieldAddr; exact rfl; exact rfl; exact (ty rfl); exact rfl; exact rfl; exact rfl; exact rfl; exact rfl) | (apply e_not; exact rfl; exact rfl; exact rfl) | (apply e_ixd; exact rfl; exact rfl; exact rfl; exact (ty rfl); exact rfl; exact (by first | omega | (simp; done) | (simp; omega)); exact (by first | omega | (simp; done) | (simp; omega)); exact (by first | rfl | assumption); exact rfl) | (apply e_ld1d; exact rfl; exact rfl; exact (ty rfl); exact rfl; exact rfl; exact rfl))
    | (show DE _ _ _ _ _ _ _ _ _ _ _ _; (first | (apply dr_nil; exact trivial) | (apply e_ldad; exact rfl; exact rfl; exact (ty rfl); exact rfl; exact rfl; exact rfl) | (apply e_callU; exact rfl; exact rfl; exact rfl; rotate_left; exact hR _; exact rfl; rotate_right; focus ((repeat' (first | exact FzL.nil | exact (by assumption : FzC _) _ | refine FzL.cons ?_ ?_ | exact Fz.of rfl | exact Fz.nil | exact Fz.emp | (apply Fz.fnC; assumption) | (apply Fz.sl2; exact rfl; exact (by first | omega | (simp; done) | (simp; omega)); first | exact rfl | exact dt_full (by first | omega | (simp; done) | (simp; omega)) | assumption) | apply Fz.agg | (apply Fz.ptrL; exact rfl; first | exact rfl | assumption) | apply Fz.fnL)); done)) | (apply e_callU; exact rfl; exact rfl; exact rfl; rotate_left; exact hC _; exact rfl; rotate_right; focus ((repeat' (first | exact FzL.nil | exact (by assumption : FzC _) _ | refine FzL.cons ?_ ?_ | exact Fz.of rfl | exact Fz.nil | exact Fz.emp | (apply Fz.fnC; assumption) | (apply Fz.sl2; exact rfl; exact (by first | omega | (simp; done) | (simp; omega)); first | exact rfl | exact dt_full (by first | omega | (simp; done) | (simp; omega)) | assumption) | apply Fz.agg | (apply Fz.ptrL; exact rfl; first | exact rfl | assumption) | apply Fz.fnL)); done))); (try simp only [put, rowsOf, plR, List.all_cons, selE, ovr, setH, del, cellsA, splice, isV, List.nil_append, List.cons_append, List.map_cons, List.map_nil, List.length_cons, List.length_nil, List.set_cons_zero, List.set_cons_succ, List.take_succ_cons, List.take_zero, List.take_nil, List.drop_succ_cons, List.drop_zero, List.drop_nil, List.append_nil, List.all_cons, List.all_nil, Bool.and_true, Bool.true_and, Bool.and_false, Bool.false_and, Nat.reduceAdd, Nat.zero_add, Nat.add_zero, Nat.reduceEqDiff, if_true, if_false, reduceIte]))
    | (show AW _ _ _ _ _ _ _ _; first | refine aw_region ?_ | (refine aw_seqk ?_; intro K hK) | refine aw_block ?_ | (apply aw_cond_t; exact rfl; exact (by assumption)) | refine aw_skip ?_ | refine aw_drawE (id := 14) [0, 0, 0, 4, 0, 28, 60, 124, 255, 0, 512, 0, 3584, 7680, 15872, 32767, 65535] [1, 0, 0, 1, 0, 0, 0, 1, 1, 0, 1, 0, 0, 0, 1, 1, 0] mixed (by kernel_rfl) ?_ | (apply aw_ite; exact rfl; all_goals intro h))
    | refine thn_n ?_
    | (refine hK _ _ _ ?_; clear hK K)
    | refine inb_n ?_)); all_goals (repeat (clear hK K)))
    · have hb : (rv.any fun y => y == ls[t].b) = false := by have h := ‹(!rv.any fun y => y == ls[t].b) = true›; rwa [Bool.not_eq_true'] at h
      rw [if_neg (by rw [hb]; simp)] at hsu
      refine ⟨i + 1, fun j => [0, 1, 5].getD j 0, c2, by omega, ?_⟩
      (try dsimp only); rw [hNx, hsu, List.map_append, List.length_append, ← hw3]
      exact ⟨by (repeat (refine ⟨by first | exact lk_i rfl rfl | exact lk_s rfl rfl rfl rfl | exact lk_p rfl rfl, ?_⟩)); exact trivial, by (repeat (refine ⟨by first | exact ⟨rfl, rfl, rfl⟩, ?_⟩)); exact trivial, by rfl, by exact pin_0⟩
    · have hb : (rv.any fun y => y == ls[t].b) = true := by have h := ‹(!rv.any fun y => y == ls[t].b) = false›; rwa [Bool.not_eq_false'] at h
      rw [if_pos hb] at hsu
      refine ⟨i + 1, id, c2, by omega, ?_⟩
      (try dsimp only); rw [hNx, hsu, ← hw3]
      exact ⟨by (repeat (refine ⟨by first | exact lk_i rfl rfl | exact lk_s rfl rfl rfl rfl | exact lk_p rfl rfl, ?_⟩)); exact trivial, by (repeat (refine ⟨by first | exact ⟨rfl, rfl, rfl⟩, ?_⟩)); exact trivial, by rfl, by exact pin_0⟩
  have b2 : decide ((i : Int) < (ls.length : Int)) = false := by simpa using c2
  obtain rfl : i = ls.length := by omega
  rw [hTd] at hlen hml hmem ⊢
  have hSo := So.Sort_rc 2 Tk (by omega)
  have hw4 : IntKind.i64.wrap (n - 1) = n - 1 := IntWalk.i64_in _ (by omega)
  have b3 : ((Tk.length : Int) != IntKind.i64.wrap (n - 1)) = false := by rw [hw4]; simpa using hv
  ((repeat' (first
    | (show SQ _ _ _ _ _ _ _ _; first | apply sq_nil | (apply q_move; exact rfl; exact rfl) | (apply q_assign; exact rfl; exact rfl) | (apply q_fieldAddr; exact rfl; exact rfl; exact (ty rfl); exact rfl; exact rfl; exact rfl; exact rfl) | (apply q_lenl; exact rfl; exact rfl; exact (ty rfl); exact rfl) | (apply q_sub; exact rfl; exact rfl; exact rfl) | (apply q_neq; exact rfl; exact rfl; exact rfl) | (apply q_lss; exact rfl; exact rfl; exact rfl) | (apply q_ld1d; exact rfl; exact rfl; exact (ty rfl); exact rfl; exact rfl))
    | (show SQ _ _ _ _ _ _ _ _; (first | (apply q_callC; exact rfl; exact rfl; exact rfl; exact hSo _; (focus ((repeat (first | exact trivial | refine ⟨by first | exact rfl | assumption, ?_⟩)); done)); skip)); (try simp only [put, rowsOf, plR, List.all_cons, selE, ovr, setH, del, cellsA, splice, isV, List.nil_append, List.cons_append, List.map_cons, List.map_nil, List.length_cons, List.length_nil, List.set_cons_zero, List.set_cons_succ, List.take_succ_cons, List.take_zero, List.take_nil, List.drop_succ_cons, List.drop_zero, List.drop_nil, List.append_nil, List.all_cons, List.all_nil, Bool.and_true, Bool.true_and, Bool.and_false, Bool.false_and, Nat.reduceAdd, Nat.zero_add, Nat.add_zero, Nat.reduceEqDiff, if_true, if_false, reduceIte]))
    | (show AW _ _ _ _ _ _ _ _; first | refine aw_region ?_ | (refine aw_seqk ?_; intro K hK) | (apply aw_cond_f; exact rfl; exact (by assumption)) | refine aw_ret ?_ | refine aw_exit ?_ | refine aw_skip ?_)
    | refine thn_n ?_
    | (refine hK _ _ _ ?_; clear hK K)
    | refine thn_e ?_
    | refine inb_same ?_
    | (clear hK K; refine hK _ _ _ ?_; clear hK K))); all_goals (repeat (clear hK K)))
  all_goals (exact fin_r (fin_m2 rfl rfl rfl _ _ rfl rfl rfl))
end Go.Proofs.Ytglfcaioapdiaaa.Bk

namespace Go.Proofs.Ytglfcaioapdiaaa.Bk
open Go
set_option linter.unusedSimpArgs false
set_option linter.unusedVariables false
def mb (m : Nat) (ix : List Int) : List Bool := (List.range m).map fun i : Nat => ix.any fun y => y == (i : Int)
theorem mb_len (m : Nat) (ix : List Int) : (mb m ix).length = m := by simp [mb]
theorem mb_get {m i : Nat} {ix : List Int} (h : i < m) : (mb m ix).getD i false = ix.any fun y => y == (i : Int) := by simp [mb, List.getD, h]
theorem mb_set {m a : Nat} {ix : List Int} (h : a < m) : (mb m ix).set a true = mb m (ix ++ [(a : Int)]) := by
  apply List.ext_getElem?
  intro x
  rw [List.getElem?_set, mb_len]
  by_cases hx : x < m
  · split
    · rename_i e; subst e; simp [mb, hx]
    · rename_i e
      have : ((a : Int) == (x : Int)) = false := by simp; omega
      simp [mb, hx, this]
  · rw [if_neg (by omega), List.getElem?_eq_none (by rw [mb_len]; omega), List.getElem?_eq_none (by rw [mb_len]; omega)]
theorem mb_nil (m : Nat) : mb m [] = List.replicate m false := by
  apply List.ext_getElem?
  intro x
  by_cases hx : x < m <;> simp [mb, hx]
theorem any_mem {ix : List Int} {x : Int} : (ix.any fun y => y == x) = true ↔ x ∈ ix := by
  rw [List.any_eq_true]
  exact ⟨fun ⟨y, h1, h2⟩ => by rw [beq_iff_eq] at h2; exact h2 ▸ h1, fun h => ⟨x, h, by simp⟩⟩
def amn (ls : List Ln) (sn : List Int) : Nat → Int
  | 0 => -1
  | i + 1 => if (!(sn.any fun y => y == (i : Int)) && (decide (amn ls sn i < 0) || decide (kO ls (i : Int) < kO ls (amn ls sn i)))) = true then (i : Int) else amn ls sn i
theorem amn_spec (ls : List Ln) (sn : List Int) : ∀ i : Nat, (amn ls sn i = -1 ∧ ∀ j : Nat, j < i → (j : Int) ∈ sn) ∨ (0 ≤ amn ls sn i ∧ amn ls sn i < i ∧ amn ls sn i ∉ sn ∧ ∀ j : Nat, j < i → (j : Int) ∉ sn → (j : Int) ≠ amn ls sn i → Lx (kO ls) (amn ls sn i) j)
  | 0 => .inl ⟨rfl, fun j h => by omega⟩
  | i + 1 => by
    have ih := amn_spec ls sn i
    rw [amn]
    by_cases hs : (i : Int) ∈ sn
    · have : (sn.any fun y => y == (i : Int)) = true := any_mem.2 hs
      rw [if_neg (by rw [this]; simp)]
      rcases ih with ⟨h1, h2⟩ | ⟨h1, h2, h3, h4⟩
      · refine .inl ⟨h1, fun j hj => ?_⟩
        by_cases e : j = i
        · subst e; exact hs
        · exact h2 j (by omega)
      · refine .inr ⟨h1, by omega, h3, fun j hj hn hne => ?_⟩
        by_cases e : j = i
        · subst e; exact absurd hs hn
        · exact h4 j (by omega) hn hne
    · have : (sn.any fun y => y == (i : Int)) = false := by
        cases h : (sn.any fun y => y == (i : Int)) with
        | false => rfl
        | true => exact absurd (any_mem.1 h) hs
      rw [this]
      rcases ih with ⟨h1, h2⟩ | ⟨h1, h2, h3, h4⟩
      · rw [if_pos (by rw [h1]; simp)]
        refine .inr ⟨by omega, by omega, hs, fun j hj hn hne => ?_⟩
        exact absurd (h2 j (by omega)) hn
      · by_cases c : kO ls (i : Int) < kO ls (amn ls sn i)
        · rw [if_pos (by simp [c])]
          refine .inr ⟨by omega, by omega, hs, fun j hj hn hne => ?_⟩
          by_cases e : (j : Int) = amn ls sn i
          · rw [e]; exact .inl c
          · have := h4 j (by omega) hn e
            exact Lx.trans (.inl c) this
        · rw [if_neg (by simp [c]; omega)]
          refine .inr ⟨h1, by omega, h3, fun j hj hn hne => ?_⟩
          by_cases e : j = i
          · subst e; unfold Lx; omega
          · exact h4 j (by omega) hn hne
theorem Lx.irr {K : Int → Int} {x y : Int} (h : Lx K x y) (h' : Lx K y x) : False := by unfold Lx at *; omega
theorem amn_ord {ls : List Ln} {t : Nat} (h : t < ls.length) : amn ls ((ordK ls).take t) ls.length = (ordK ls).getD t 0 := by
  have hp := ordK_perm ls
  have hl := ordK_len ls
  have hs : (ordK ls).Pairwise (Lx (kO ls)) := (stF_sorted (K := kO ls) (part0_up _) (by rw [part0_len]; omega)).2
  generalize ordK ls = ys at *
  have hmem : ∀ x, x ∈ ys ↔ 0 ≤ x ∧ x < ls.length := fun x => by rw [hp.mem_iff]; exact part0_mem
  have hyt : ys.getD t 0 ∈ ys := getD_mem (by omega)
  have hnt : ys.getD t 0 ∉ ys.take t := fun hm => by
    obtain ⟨j, hj, e⟩ := mem_getD hm
    have hj' : j < t := by rw [List.length_take] at hj; omega
    have e2 : (ys.take t).getD j 0 = ys.getD j 0 := by simp only [List.getD]; rw [List.getElem?_take_of_lt hj']
    rw [e2] at e
    have := pw_at hs hj' (by omega)
    rw [e] at this
    exact this.irr this
  rcases amn_spec ls (ys.take t) ls.length with ⟨_, h2⟩ | ⟨h1, h2, h3, h4⟩
  · obtain ⟨g0, g1⟩ := (hmem _).1 hyt
    have := h2 (ys.getD t 0).toNat (by omega)
    rw [Int.toNat_of_nonneg g0] at this
    exact absurd this hnt
  · generalize amn ls (ys.take t) ls.length = a at *
    obtain ⟨j, hj, e⟩ := mem_getD ((hmem a).2 ⟨h1, h2⟩)
    have htj : t ≤ j := by
      apply Nat.le_of_not_lt
      intro hlt
      refine h3 ?_
      rw [← e]
      have : (ys.take t).getD j 0 = ys.getD j 0 := by simp only [List.getD]; rw [List.getElem?_take_of_lt hlt]
      rw [← this]
      exact getD_mem (by rw [List.length_take]; omega)
    by_cases hjt : j = t
    · rw [← e, hjt]
    · obtain ⟨g0, g1⟩ := (hmem _).1 hyt
      have hl1 := pw_at hs (show t < j by omega) hj
      rw [e] at hl1
      have hne : ((ys.getD t 0).toNat : Int) ≠ a := fun h => by
        rw [Int.toNat_of_nonneg g0] at h
        rw [h] at hl1; exact hl1.irr hl1
      have := h4 (ys.getD t 0).toNat (by omega) (by rw [Int.toNat_of_nonneg g0]; exact hnt) hne
      rw [Int.toNat_of_nonneg g0] at this
      exact (hl1.irr this).elim
def pst (xs : List Int) (x : Int) : Nat → List Int × Bool
  | 0 => ([], false)
  | i + 1 => if (!(pst xs x i).2 && decide (x ≤ xs.getD i 0)) = true then ((if x < xs.getD i 0 then (pst xs x i).1 ++ [x] else (pst xs x i).1) ++ [xs.getD i 0], true) else ((pst xs x i).1 ++ [xs.getD i 0], (pst xs x i).2)
def putV (xs : List Int) (x : Int) : List Int := if (pst xs x xs.length).2 = true then (pst xs x xs.length).1 else (pst xs x xs.length).1 ++ [x]
theorem pst_len (xs : List Int) (x : Int) : ∀ i, (pst xs x i).1.length ≤ i + 1 ∧ ((pst xs x i).2 = false → (pst xs x i).1.length = i)
  | 0 => ⟨Nat.zero_le _, fun _ => rfl⟩
  | i + 1 => by
    have ih := pst_len xs x i
    rw [pst]
    split
    · rename_i h
      simp only [Bool.and_eq_true, Bool.not_eq_true'] at h
      have := ih.2 h.1
      refine ⟨?_, fun h => by cases h⟩
      split <;> simp <;> omega
    · exact ⟨by simp; omega, fun h => by simp [ih.2 h]⟩
theorem pst_spec {xs : List Int} {x : Int} (hs : xs.Pairwise (· < ·)) (hx : x ∉ xs) : ∀ i, i ≤ xs.length → (pst xs x i).1.Pairwise (· < ·) ∧ (pst xs x i).1.Perm (if (pst xs x i).2 = true then x :: xs.take i else xs.take i) ∧ ((pst xs x i).2 = false → ∀ y ∈ xs.take i, y < x)
  | 0, _ => ⟨List.Pairwise.nil, .refl _, fun _ y h => by simp at h⟩
  | i + 1, hi => by
    obtain ⟨h1, h2, h3⟩ := pst_spec hs hx i (by omega)
    have hg : xs.getD i 0 = xs[i] := by simp [List.getD, show i < xs.length by omega]
    have htk : xs.take (i + 1) = xs.take i ++ [xs[i]] := List.take_succ_eq_append_getElem (by omega)
    have hlt : ∀ y ∈ xs.take i, y < xs[i] := fun y hy => by
      obtain ⟨j, hj, rfl⟩ := List.getElem_of_mem hy
      rw [List.length_take] at hj
      rw [List.getElem_take]
      exact List.pairwise_iff_getElem.1 hs j i (by omega) (by omega) (by omega)
    have hne : xs[i] ≠ x := fun e => hx (e ▸ List.getElem_mem _)
    rw [pst, hg, htk]
    cases hd : (pst xs x i).2 with
    | true =>
      rw [hd] at h2
      simp only [if_true, Bool.not_true, Bool.false_and, Bool.false_eq_true, if_false] at h2 ⊢
      refine ⟨List.pairwise_append.2 ⟨h1, List.pairwise_singleton _ _, fun a ha b hb => ?_⟩, h2.append_right [xs[i]], fun h => by cases h⟩
      rw [List.mem_singleton] at hb
      subst hb
      rcases List.mem_cons.1 (h2.mem_iff.1 ha) with rfl | ha
      · -- x was put in before an item that is not less
        have : ∀ k, k ≤ i → (pst xs a k).2 = true → ∃ j, j < k ∧ a < xs.getD j 0 := by
          intro k
          induction k with
          | zero => intro _ h; cases h
          | succ k ih =>
            intro hk h
            rw [pst] at h
            split at h
            · rename_i hc
              simp only [Bool.and_eq_true, decide_eq_true_eq] at hc
              have e : xs.getD k 0 = xs[k] := by simp [List.getD, show k < xs.length by omega]
              have : xs[k] ≠ a := fun e => hx (e ▸ List.getElem_mem _)
              exact ⟨k, by omega, by rw [e] at hc ⊢; omega⟩
            · obtain ⟨j, hj, hl⟩ := ih (by omega) h
              exact ⟨j, by omega, hl⟩
        obtain ⟨j, hj, hl⟩ := this i (Nat.le_refl _) hd
        have e : xs.getD j 0 = xs[j] := by simp [List.getD, show j < xs.length by omega]
        rw [e] at hl
        have := List.pairwise_iff_getElem.1 hs j i (by omega) (by omega) hj
        omega
      · exact hlt a ha
    | false =>
      rw [hd] at h2
      simp only [Bool.false_eq_true, if_false, Bool.not_false, Bool.true_and] at h2 ⊢
      have h3 := h3 hd
      by_cases c : x ≤ xs[i]
      · have c2 : x < xs[i] := by omega
        rw [if_pos (by simpa using c), if_pos c2]
        refine ⟨List.pairwise_append.2 ⟨List.pairwise_append.2 ⟨h1, List.pairwise_singleton _ _, fun a ha b hb => ?_⟩, List.pairwise_singleton _ _, fun a ha b hb => ?_⟩, ?_, fun h => by cases h⟩
        · rw [List.mem_singleton] at hb; subst hb; exact h3 a (h2.mem_iff.1 ha)
        · rw [List.mem_singleton] at hb; subst hb
          rcases List.mem_append.1 ha with ha | ha
          · exact hlt a (h2.mem_iff.1 ha)
          · rw [List.mem_singleton] at ha; subst ha; exact c2
        · simp only [if_true]
          refine (List.Perm.append_right [xs[i]] (?_ : ((pst xs x i).1 ++ [x]).Perm (x :: xs.take i)))
          exact (List.perm_append_comm (l₂ := [x])).trans (List.Perm.cons x h2)
      · rw [if_neg (by simpa using c)]
        simp only [Bool.false_eq_true, if_false]
        refine ⟨List.pairwise_append.2 ⟨h1, List.pairwise_singleton _ _, fun a ha b hb => ?_⟩, h2.append_right [xs[i]], fun _ y hy => ?_⟩
        · rw [List.mem_singleton] at hb; subst hb; exact hlt a (h2.mem_iff.1 ha)
        · rcases List.mem_append.1 hy with hy | hy
          · exact h3 y hy
          · rw [List.mem_singleton] at hy; omega
theorem putV_spec {xs : List Int} {x : Int} (hs : xs.Pairwise (· < ·)) (hx : x ∉ xs) : (putV xs x).Pairwise (· < ·) ∧ (putV xs x).Perm (xs ++ [x]) := by
  obtain ⟨h1, h2, h3⟩ := pst_spec hs hx xs.length (Nat.le_refl _)
  unfold putV
  rw [List.take_length] at h2 h3
  cases hd : (pst xs x xs.length).2 with
  | true =>
    rw [hd] at h2
    simp only [if_true] at h2 ⊢
    exact ⟨h1, h2.trans (List.perm_append_comm (l₁ := [x]))⟩
  | false =>
    rw [hd] at h2
    simp only [Bool.false_eq_true, if_false] at h2 ⊢
    refine ⟨List.pairwise_append.2 ⟨h1, List.pairwise_singleton _ _, fun a ha b hb => ?_⟩, h2.append_right [x]⟩
    rw [List.mem_singleton] at hb; subst hb; exact h3 hd a (h2.mem_iff.1 ha)
theorem srt_up {xs : List Int} (h : xs.Nodup) : (So.srt xs).Pairwise (· < ·) ∧ (So.srt xs).Perm xs := by
  have hp : (So.srt xs).Perm xs := List.mergeSort_perm _ _
  have hs : (So.srt xs).Pairwise fun a b => decide (a ≤ b) = true := List.pairwise_mergeSort (fun a b c h1 h2 => by simp at *; omega) (fun a b => by simp; omega) xs
  have hn : (So.srt xs).Nodup := hp.nodup_iff.2 h
  refine ⟨?_, hp⟩
  have := hs.and hn
  exact this.imp fun {a b} ⟨h1, h2⟩ => by
    have h1 := of_decide_eq_true h1
    have h2 : a ≠ b := h2
    omega
theorem up_eq {xs ys : List Int} (hx : xs.Pairwise (· < ·)) (hy : ys.Pairwise (· < ·)) (hp : xs.Perm ys) : xs = ys :=
  List.Perm.eq_of_pairwise (le := fun a b : Int => a < b) (fun a b _ _ h1 h2 => by omega) hx hy hp
theorem put_srt {xs : List Int} {x : Int} (h : (xs ++ [x]).Nodup) : putV (So.srt xs) x = So.srt (xs ++ [x]) := by
  obtain ⟨n1, n2, n3⟩ := List.nodup_append.1 h
  obtain ⟨a1, a2⟩ := srt_up n1
  obtain ⟨b1, b2⟩ := srt_up h
  have hx : x ∉ So.srt xs := fun hm => n3 x (a2.mem_iff.1 hm) x (by simp) rfl
  obtain ⟨c1, c2⟩ := putV_spec a1 hx
  exact up_eq c1 b1 (c2.trans ((a2.append_right [x]).trans b2.symm))
theorem act_mb {ls : List Ln} {ix : List Int} (hix : ∀ x ∈ ix, 0 ≤ x ∧ x < ls.length) (l : Ln) : l ∈ act ls (mb ls.length ix) ls.length ↔ l ∈ ix.map (lnAt ls) := by
  simp only [act, List.mem_map, List.mem_filter, List.mem_range]
  constructor
  · rintro ⟨j, ⟨hj, hm⟩, rfl⟩
    rw [mb_get hj] at hm
    exact ⟨(j : Int), any_mem.1 hm, by simp [lnAt]⟩
  · rintro ⟨x, hx, rfl⟩
    obtain ⟨h0, h1⟩ := hix x hx
    refine ⟨x.toNat, ⟨by omega, ?_⟩, rfl⟩
    rw [mb_get (by omega), Int.toNat_of_nonneg h0]
    exact any_mem.2 hx
theorem part_reach {n : Int} {ls : List Ln} {ix : List Int} (hL : ∀ l ∈ ls, 0 ≤ l.a ∧ l.a < n ∧ 0 ≤ l.b ∧ l.b < n) (hix : ∀ x ∈ ix, 0 ≤ x ∧ x < ls.length) {a b : Int} (ha : 0 ≤ a ∧ a < n) (hb : 0 ≤ b ∧ b < n) :
    ((parts n ls (mb ls.length ix) ls.length).getD a.toNat 0 != (parts n ls (mb ls.length ix) ls.length).getD b.toNat 0) = !((reachV n ls ix a).any fun y => y == b) := by
  have hc := parts_conn (may := mb ls.length ix) hL ls.length (Nat.le_refl _) a b ha.1 ha.2 hb.1 hb.2
  have hr := (reachV_spec (ix := ix) hL hix ha).2 b
  have hm : Cn (act ls (mb ls.length ix) ls.length) a b ↔ Cn (ix.map (lnAt ls)) a b :=
    ⟨fun h => h.mono fun l hl => (act_mb hix l).1 hl, fun h => h.mono fun l hl => (act_mb hix l).2 hl⟩
  rw [hm, ← hr, ← any_mem] at hc
  cases h : ((reachV n ls ix a).any fun y => y == b) with
  | true =>
    have := hc.2 h
    rw [this]; simp
  | false =>
    have : ¬ (parts n ls (mb ls.length ix) ls.length).getD a.toNat 0 = (parts n ls (mb ls.length ix) ls.length).getD b.toNat 0 := fun e => by
      have := hc.1 e; rw [h] at this; cases this
    simpa using this
theorem spT_nodup {n : Int} {ls : List Ln} {ys : List Int} (h : ys.Nodup) : ∀ i, i ≤ ys.length → (spT n ls ys i).Nodup ∧ ∀ x ∈ spT n ls ys i, x ∈ ys.take i
  | 0, _ => ⟨List.nodup_nil, fun x h => by cases h⟩
  | i + 1, hi => by
    obtain ⟨h1, h2⟩ := spT_nodup h (n := n) (ls := ls) i (by omega)
    have htk : ys.take (i + 1) = ys.take i ++ [ys[i]] := List.take_succ_eq_append_getElem (by omega)
    have hg : ys.getD i 0 = ys[i] := by simp [List.getD, show i < ys.length by omega]
    have hn : (ys.take (i + 1)).Nodup := h.sublist (List.take_sublist _ _)
    rw [htk] at hn
    obtain ⟨_, _, n3⟩ := List.nodup_append.1 hn
    rw [spT, hg, htk]
    split
    · exact ⟨h1, fun x hx => List.mem_append_left _ (h2 x hx)⟩
    · refine ⟨List.nodup_append.2 ⟨h1, by simp, fun a ha b hb => n3 a (h2 a ha) b hb⟩, fun x hx => ?_⟩
      rcases List.mem_append.1 hx with hx | hx
      · exact List.mem_append_left _ (h2 x hx)
      · exact List.mem_append_right _ hx
end Go.Proofs.Ytglfcaioapdiaaa.Bk

namespace Go.Proofs.Ytglfcaioapdiaaa.Bk
open Go Go.RowKit Go.Proofs.Ytglfcaioapdiaaa.Aw
set_option linter.unusedSimpArgs false
set_option linter.unusedVariables false
attribute [local irreducible] AW SQ Step RO RC DE Thn InB
set_option maxHeartbeats 4000000 in
theorem l00Put_ro (xs : List Int) (x : Int) (hn : xs.length ≤ 1048576) (k : Nat) : RO Try.prog 74 [.dsl 1 (xs.map inL), .v (.int .i64 x)] k (.sl k 0 (putV xs x).length) [(k, ⟨2, 1, true, (putV xs x).map inL⟩)] (k + 1) := by
  have hml : (xs.map inL).length = xs.length := List.length_map _
  generalize hQ : putV xs x = Q
  unfold putV at hQ
  refine RO.ofm (.sl 0 0 Q.length) ([(0, ⟨2, 1, true, Q.map inL⟩)]) 1 Try.func74 Try.ntmps74 rfl (goFn_of Try.func74 rfl (by kernel_rfl)) rfl rfl (by simp [renA, renL]) (by simp [shH, renB]) rfl ?_
  ((repeat' (first
    | (show SQ _ _ _ _ _ _ _ _; first | apply sq_nil | (apply q_assign; exact rfl; exact rfl))
    | (show SQ _ _ _ _ _ _ _ _; (first | (apply q_build0; exact rfl; exact (ty rfl); exact rfl)); (try simp only [put, rowsOf, plR, List.all_cons, selE, ovr, setH, del, cellsA, splice, isV, List.nil_append, List.cons_append, List.map_cons, List.map_nil, List.length_cons, List.length_nil, List.set_cons_zero, List.set_cons_succ, List.take_succ_cons, List.take_zero, List.take_nil, List.drop_succ_cons, List.drop_zero, List.drop_nil, List.append_nil, List.all_cons, List.all_nil, Bool.and_true, Bool.true_and, Bool.and_false, Bool.false_and, Nat.reduceAdd, Nat.zero_add, Nat.add_zero, Nat.reduceEqDiff, if_true, if_false, reduceIte]))
    | (show AW _ _ _ _ _ _ _ _; first | refine aw_region ?_ | (refine aw_seqk ?_; intro K hK) | refine aw_block ?_)
    | refine thn_n ?_
    | (refine hK _ _ _ ?_; clear hK K))); all_goals (repeat (clear hK K)))
  refine aw_loop (ρ := id) (ι := Nat) (fun i => ([(7, .v (.int .i64 i)), (6, .v (.bool (pst xs x i).2)), (5, .sl 0 0 (pst xs x i).1.length), (1, .v (.int .i64 x)), (0, .dsl 1 (xs.map inL))], [(0, ⟨2, 1, true, (pst xs x i).1.map inL⟩)], 1))
    (fun i => i ≤ xs.length) (fun i => xs.length - i) 0 (Nat.zero_le _) ⟨by (repeat (refine ⟨by first | exact lk_i rfl rfl | exact lk_d rfl rfl | exact lk_v rfl rfl | exact lk_s rfl rfl rfl rfl, ?_⟩)); exact trivial, by (repeat (refine ⟨by first | exact ⟨rfl, rfl, rfl⟩, ?_⟩)); exact trivial, by rfl, by exact pin_0⟩ ?_
  intro i hi
  have hpl := (pst_len xs x i).1
  have hpm : ((pst xs x i).1.map inL).length = (pst xs x i).1.length := List.length_map _
  by_cases c1 : i < xs.length
  · have b1 : decide ((i : Int) < ((xs.map inL).length : Int)) = true := by rw [hml]; simpa using c1
    have hrow : (xs.map inL)[((i : Int)).toNat]? = some [.v (.int .i64 (xs.getD i 0))] := by
      rw [Int.toNat_natCast]; simp [c1, inL]
    have hw : IntKind.i64.wrap ((i : Int) + 1) = ((i + 1 : Nat) : Int) := by rw [IntWalk.i64_in _ (by omega)]; omega
    have hst : pst xs x (i + 1) = if (!(pst xs x i).2 && decide (x ≤ xs.getD i 0)) = true then ((if x < xs.getD i 0 then (pst xs x i).1 ++ [x] else (pst xs x i).1) ++ [xs.getD i 0], true) else ((pst xs x i).1 ++ [xs.getD i 0], (pst xs x i).2) := rfl
    generalize hNe : pst xs x (i + 1) = Ne at *
    generalize pst xs x i = Cu at *
    obtain ⟨o, d⟩ := Cu
    dsimp only at hpl hpm hst ⊢
    generalize xs.getD i 0 = y at *
    cases d with
    | true =>
      have b2 : (!true) = false := rfl
      rw [if_neg (by simp)] at hst
      ((repeat' (first
    | (show SQ _ _ _ _ _ _ _ _; first | apply sq_nil | (apply q_move; exact rfl; exact rfl) | (apply q_assign; exact rfl; exact rfl) | (apply q_pick_f; exact rfl; exact rfl; exact rfl; exact (by first | assumption | exact rfl)) | (apply q_not; exact rfl; exact rfl) | (apply q_lend; exact rfl; exact rfl; exact (ty rfl); exact rfl) | (apply q_add; exact rfl; exact rfl; exact rfl) | (apply q_lss; exact rfl; exact rfl; exact rfl) | (apply q_ixd; exact rfl; exact rfl; exact rfl; exact (ty rfl); exact rfl; exact (by first | omega | (simp; done) | (simp; omega)); exact (by first | omega | (simp; done) | (simp; omega)); exact (by first | rfl | assumption)) | (apply q_ld1d; exact rfl; exact rfl; exact (ty rfl); exact rfl; exact rfl) | (apply q_s; exact rfl; exact rfl; exact rfl; exact (by assumption); exact rfl))
    | (show SQ _ _ _ _ _ _ _ _; (first | (apply q_buildn; exact rfl; exact (ty rfl); exact rfl; exact rfl; exact rfl; exact rfl; exact rfl; exact rfl; exact rfl) | (apply q_apo_s; exact rfl; exact rfl; exact rfl; exact (ty rfl); exact rfl; exact rfl; exact (by first | omega | (simp; done) | (simp; omega)); exact (by first | exact List.take_of_length_le (by first | omega | (simp; done) | (simp; omega)) | rfl); exact (ty rfl); exact rfl; exact rfl; exact (by first | omega | (simp; done) | (simp; omega)); exact (by first | exact dt_full (by first | omega | (simp; done) | (simp; omega)) | assumption | rfl); exact rfl; exact (by first | omega | (simp; done) | (simp; omega)); exact (by first | omega | (simp; done) | (simp; omega)); exact (by first | assumption | exact rfl))); (try simp only [put, rowsOf, plR, List.all_cons, selE, ovr, setH, del, cellsA, splice, isV, List.nil_append, List.cons_append, List.map_cons, List.map_nil, List.length_cons, List.length_nil, List.set_cons_zero, List.set_cons_succ, List.take_succ_cons, List.take_zero, List.take_nil, List.drop_succ_cons, List.drop_zero, List.drop_nil, List.append_nil, List.all_cons, List.all_nil, Bool.and_true, Bool.true_and, Bool.and_false, Bool.false_and, Nat.reduceAdd, Nat.zero_add, Nat.add_zero, Nat.reduceEqDiff, if_true, if_false, reduceIte]))
    | (show AW _ _ _ _ _ _ _ _; first | refine aw_region ?_ | (refine aw_seqk ?_; intro K hK) | refine aw_block ?_ | (apply aw_cond_f; exact rfl; exact rfl) | (apply aw_cond_t; exact rfl; exact (by assumption)) | refine aw_skip ?_)
    | refine thn_n ?_
    | (refine hK _ _ _ ?_; clear hK K)
    | refine inb_n ?_)); all_goals (repeat (clear hK K)))
      refine ⟨i + 1, fun j => [2].getD j 0, c1, by omega, ?_⟩
      (try dsimp only); rw [hNe, hst, List.map_append, List.length_append, ← hw]
      exact ⟨by (repeat (refine ⟨by first | exact lk_i rfl rfl | exact lk_d rfl rfl | exact lk_v rfl rfl | exact lk_s rfl rfl rfl rfl, ?_⟩)); exact trivial, by (repeat (refine ⟨by first | exact ⟨rfl, rfl, rfl⟩, ?_⟩)); exact trivial, by rfl, by exact pin_0⟩
    | false =>
      have b2 : (!false) = true := rfl
      by_cases c2 : x ≤ y
      · have b3 : decide (x ≤ y) = true := by simpa using c2
        rw [if_pos (by simpa using c2)] at hst
        by_cases c3 : x < y
        · have b4 : decide (x < y) = true := by simpa using c3
          rw [if_pos c3] at hst
          have hol : (o.map inL ++ [[AV.v (.int .i64 x)]]).length = o.length + 1 := by simp
          ((repeat' (first
    | (show SQ _ _ _ _ _ _ _ _; first | apply sq_nil | (apply q_move; exact rfl; exact rfl) | (apply q_assign; exact rfl; exact rfl) | (apply q_pick_t; exact rfl; exact rfl; exact rfl; exact (by first | assumption | exact rfl)) | (apply q_not; exact rfl; exact rfl) | (apply q_lend; exact rfl; exact rfl; exact (ty rfl); exact rfl) | (apply q_add; exact rfl; exact rfl; exact rfl) | (apply q_lss; exact rfl; exact rfl; exact rfl) | (apply q_gtr; exact rfl; exact rfl; exact rfl) | (apply q_geq; exact rfl; exact rfl; exact rfl) | (apply q_ixd; exact rfl; exact rfl; exact rfl; exact (ty rfl); exact rfl; exact (by first | omega | (simp; done) | (simp; omega)); exact (by first | omega | (simp; done) | (simp; omega)); exact (by first | rfl | assumption)) | (apply q_ld1d; exact rfl; exact rfl; exact (ty rfl); exact rfl; exact rfl) | (apply q_g; exact rfl; exact rfl; exact rfl; exact (by assumption)))
    | (show SQ _ _ _ _ _ _ _ _; (first | (apply q_buildn; exact rfl; exact (ty rfl); exact rfl; exact rfl; exact rfl; exact rfl; exact rfl; exact rfl; exact rfl) | (apply q_apo_s; exact rfl; exact rfl; exact rfl; exact (ty rfl); exact rfl; exact rfl; exact (by first | omega | (simp; done) | (simp; omega)); exact (by first | exact List.take_of_length_le (by first | omega | (simp; done) | (simp; omega)) | rfl); exact (ty rfl); exact rfl; exact rfl; exact (by first | omega | (simp; done) | (simp; omega)); exact (by first | exact dt_full (by first | omega | (simp; done) | (simp; omega)) | assumption | rfl); exact rfl; exact (by first | omega | (simp; done) | (simp; omega)); exact (by first | omega | (simp; done) | (simp; omega)); exact (by first | assumption | exact rfl))); (try simp only [put, rowsOf, plR, List.all_cons, selE, ovr, setH, del, cellsA, splice, isV, List.nil_append, List.cons_append, List.map_cons, List.map_nil, List.length_cons, List.length_nil, List.set_cons_zero, List.set_cons_succ, List.take_succ_cons, List.take_zero, List.take_nil, List.drop_succ_cons, List.drop_zero, List.drop_nil, List.append_nil, List.all_cons, List.all_nil, Bool.and_true, Bool.true_and, Bool.and_false, Bool.false_and, Nat.reduceAdd, Nat.zero_add, Nat.add_zero, Nat.reduceEqDiff, if_true, if_false, reduceIte]))
    | (show AW _ _ _ _ _ _ _ _; first | refine aw_region ?_ | (refine aw_seqk ?_; intro K hK) | refine aw_block ?_ | (apply aw_cond_t; exact rfl; exact (by assumption)) | refine aw_skip ?_)
    | refine thn_n ?_
    | (refine hK _ _ _ ?_; clear hK K)
    | refine inb_n ?_)); all_goals (repeat (clear hK K)))
          refine ⟨i + 1, fun j => [4].getD j 0, c1, by omega, ?_⟩
          (try dsimp only); rw [hNe, hst, List.map_append, List.map_append, List.length_append, List.length_append, ← hw]
          exact ⟨by (repeat (refine ⟨by first | exact lk_i rfl rfl | exact lk_d rfl rfl | exact lk_v rfl rfl | exact lk_s rfl rfl rfl rfl, ?_⟩)); exact trivial, by (repeat (refine ⟨by first | exact ⟨rfl, rfl, rfl⟩, ?_⟩)); exact trivial, by rfl, by exact pin_0⟩
        · have b4 : decide (x < y) = false := by simpa using c3
          rw [if_neg c3] at hst
          ((repeat' (first
    | (show SQ _ _ _ _ _ _ _ _; first | apply sq_nil | (apply q_move; exact rfl; exact rfl) | (apply q_assign; exact rfl; exact rfl) | (apply q_pick_t; exact rfl; exact rfl; exact rfl; exact (by first | assumption | exact rfl)) | (apply q_not; exact rfl; exact rfl) | (apply q_lend; exact rfl; exact rfl; exact (ty rfl); exact rfl) | (apply q_add; exact rfl; exact rfl; exact rfl) | (apply q_lss; exact rfl; exact rfl; exact rfl) | (apply q_gtr; exact rfl; exact rfl; exact rfl) | (apply q_geq; exact rfl; exact rfl; exact rfl) | (apply q_ixd; exact rfl; exact rfl; exact rfl; exact (ty rfl); exact rfl; exact (by first | omega | (simp; done) | (simp; omega)); exact (by first | omega | (simp; done) | (simp; omega)); exact (by first | rfl | assumption)) | (apply q_ld1d; exact rfl; exact rfl; exact (ty rfl); exact rfl; exact rfl) | (apply q_g; exact rfl; exact rfl; exact rfl; exact (by assumption)))
    | (show SQ _ _ _ _ _ _ _ _; (first | (apply q_buildn; exact rfl; exact (ty rfl); exact rfl; exact rfl; exact rfl; exact rfl; exact rfl; exact rfl; exact rfl) | (apply q_apo_s; exact rfl; exact rfl; exact rfl; exact (ty rfl); exact rfl; exact rfl; exact (by first | omega | (simp; done) | (simp; omega)); exact (by first | exact List.take_of_length_le (by first | omega | (simp; done) | (simp; omega)) | rfl); exact (ty rfl); exact rfl; exact rfl; exact (by first | omega | (simp; done) | (simp; omega)); exact (by first | exact dt_full (by first | omega | (simp; done) | (simp; omega)) | assumption | rfl); exact rfl; exact (by first | omega | (simp; done) | (simp; omega)); exact (by first | omega | (simp; done) | (simp; omega)); exact (by first | assumption | exact rfl))); (try simp only [put, rowsOf, plR, List.all_cons, selE, ovr, setH, del, cellsA, splice, isV, List.nil_append, List.cons_append, List.map_cons, List.map_nil, List.length_cons, List.length_nil, List.set_cons_zero, List.set_cons_succ, List.take_succ_cons, List.take_zero, List.take_nil, List.drop_succ_cons, List.drop_zero, List.drop_nil, List.append_nil, List.all_cons, List.all_nil, Bool.and_true, Bool.true_and, Bool.and_false, Bool.false_and, Nat.reduceAdd, Nat.zero_add, Nat.add_zero, Nat.reduceEqDiff, if_true, if_false, reduceIte]))
    | (show AW _ _ _ _ _ _ _ _; first | refine aw_region ?_ | (refine aw_seqk ?_; intro K hK) | refine aw_block ?_ | (apply aw_cond_t; exact rfl; exact (by assumption)) | (apply aw_cond_f; exact rfl; exact (by assumption)) | refine aw_skip ?_)
    | refine thn_n ?_
    | (refine hK _ _ _ ?_; clear hK K)
    | refine inb_n ?_)); all_goals (repeat (clear hK K)))
          refine ⟨i + 1, fun j => [2].getD j 0, c1, by omega, ?_⟩
          (try dsimp only); rw [hNe, hst, List.map_append, List.length_append, ← hw]
          exact ⟨by (repeat (refine ⟨by first | exact lk_i rfl rfl | exact lk_d rfl rfl | exact lk_v rfl rfl | exact lk_s rfl rfl rfl rfl, ?_⟩)); exact trivial, by (repeat (refine ⟨by first | exact ⟨rfl, rfl, rfl⟩, ?_⟩)); exact trivial, by rfl, by exact pin_0⟩
      · have b3 : decide (x ≤ y) = false := by simpa using c2
        rw [if_neg (by simpa using c2)] at hst
        ((repeat' (first
    | (show SQ _ _ _ _ _ _ _ _; first | apply sq_nil | (apply q_move; exact rfl; exact rfl) | (apply q_assign; exact rfl; exact rfl) | (apply q_pick_t; exact rfl; exact rfl; exact rfl; exact (by first | assumption | exact rfl)) | (apply q_not; exact rfl; exact rfl) | (apply q_lend; exact rfl; exact rfl; exact (ty rfl); exact rfl) | (apply q_add; exact rfl; exact rfl; exact rfl) | (apply q_lss; exact rfl; exact rfl; exact rfl) | (apply q_geq; exact rfl; exact rfl; exact rfl) | (apply q_ixd; exact rfl; exact rfl; exact rfl; exact (ty rfl); exact rfl; exact (by first | omega | (simp; done) | (simp; omega)); exact (by first | omega | (simp; done) | (simp; omega)); exact (by first | rfl | assumption)) | (apply q_ld1d; exact rfl; exact rfl; exact (ty rfl); exact rfl; exact rfl) | (apply q_g; exact rfl; exact rfl; exact rfl; exact (by assumption)))
    | (show SQ _ _ _ _ _ _ _ _; (first | (apply q_buildn; exact rfl; exact (ty rfl); exact rfl; exact rfl; exact rfl; exact rfl; exact rfl; exact rfl; exact rfl) | (apply q_apo_s; exact rfl; exact rfl; exact rfl; exact (ty rfl); exact rfl; exact rfl; exact (by first | omega | (simp; done) | (simp; omega)); exact (by first | exact List.take_of_length_le (by first | omega | (simp; done) | (simp; omega)) | rfl); exact (ty rfl); exact rfl; exact rfl; exact (by first | omega | (simp; done) | (simp; omega)); exact (by first | exact dt_full (by first | omega | (simp; done) | (simp; omega)) | assumption | rfl); exact rfl; exact (by first | omega | (simp; done) | (simp; omega)); exact (by first | omega | (simp; done) | (simp; omega)); exact (by first | assumption | exact rfl))); (try simp only [put, rowsOf, plR, List.all_cons, selE, ovr, setH, del, cellsA, splice, isV, List.nil_append, List.cons_append, List.map_cons, List.map_nil, List.length_cons, List.length_nil, List.set_cons_zero, List.set_cons_succ, List.take_succ_cons, List.take_zero, List.take_nil, List.drop_succ_cons, List.drop_zero, List.drop_nil, List.append_nil, List.all_cons, List.all_nil, Bool.and_true, Bool.true_and, Bool.and_false, Bool.false_and, Nat.reduceAdd, Nat.zero_add, Nat.add_zero, Nat.reduceEqDiff, if_true, if_false, reduceIte]))
    | (show AW _ _ _ _ _ _ _ _; first | refine aw_region ?_ | (refine aw_seqk ?_; intro K hK) | refine aw_block ?_ | (apply aw_cond_t; exact rfl; exact (by assumption)) | (apply aw_cond_f; exact rfl; exact (by assumption)) | refine aw_skip ?_)
    | refine thn_n ?_
    | (refine hK _ _ _ ?_; clear hK K)
    | refine inb_n ?_)); all_goals (repeat (clear hK K)))
        refine ⟨i + 1, fun j => [2].getD j 0, c1, by omega, ?_⟩
        (try dsimp only); rw [hNe, hst, List.map_append, List.length_append, ← hw]
        exact ⟨by (repeat (refine ⟨by first | exact lk_i rfl rfl | exact lk_d rfl rfl | exact lk_v rfl rfl | exact lk_s rfl rfl rfl rfl, ?_⟩)); exact trivial, by (repeat (refine ⟨by first | exact ⟨rfl, rfl, rfl⟩, ?_⟩)); exact trivial, by rfl, by exact pin_0⟩
  · have b1 : decide ((i : Int) < ((xs.map inL).length : Int)) = false := by rw [hml]; simpa using c1
    obtain rfl : i = xs.length := by omega
    generalize pst xs x xs.length = Cu at *
    obtain ⟨o, d⟩ := Cu
    dsimp only at hpl hpm hQ ⊢
    cases d with
    | true =>
      have b2 : (!true) = false := rfl
      rw [if_pos rfl] at hQ
      subst hQ
      ((repeat' (first
    | (show SQ _ _ _ _ _ _ _ _; first | apply sq_nil | (apply q_move; exact rfl; exact rfl) | (apply q_assign; exact rfl; exact rfl) | (apply q_not; exact rfl; exact rfl) | (apply q_lend; exact rfl; exact rfl; exact (ty rfl); exact rfl) | (apply q_lss; exact rfl; exact rfl; exact rfl))
    | (show AW _ _ _ _ _ _ _ _; first | refine aw_region ?_ | (refine aw_seqk ?_; intro K hK) | (apply aw_cond_f; exact rfl; exact rfl) | (apply aw_cond_f; exact rfl; exact (by assumption)) | refine aw_ret ?_ | refine aw_exit ?_ | refine aw_skip ?_)
    | refine thn_n ?_
    | (refine hK _ _ _ ?_; clear hK K)
    | refine thn_e ?_
    | refine inb_same ?_
    | (clear hK K; refine hK _ _ _ ?_; clear hK K))); all_goals (repeat (clear hK K)))
      all_goals exact fin_r (fin_m rfl rfl _ _ rfl rfl)
    | false =>
      have b2 : (!false) = true := rfl
      rw [if_neg (by simp)] at hQ
      subst hQ
      ((repeat' (first
    | (show SQ _ _ _ _ _ _ _ _; first | apply sq_nil | (apply q_move; exact rfl; exact rfl) | (apply q_assign; exact rfl; exact rfl) | (apply q_not; exact rfl; exact rfl) | (apply q_lend; exact rfl; exact rfl; exact (ty rfl); exact rfl) | (apply q_lss; exact rfl; exact rfl; exact rfl))
    | (show SQ _ _ _ _ _ _ _ _; (first | (apply q_buildn; exact rfl; exact (ty rfl); exact rfl; exact rfl; exact rfl; exact rfl; exact rfl; exact rfl; exact rfl) | (apply q_apo_s; exact rfl; exact rfl; exact rfl; exact (ty rfl); exact rfl; exact rfl; exact (by first | omega | (simp; done) | (simp; omega)); exact (by first | exact List.take_of_length_le (by first | omega | (simp; done) | (simp; omega)) | rfl); exact (ty rfl); exact rfl; exact rfl; exact (by first | omega | (simp; done) | (simp; omega)); exact (by first | exact dt_full (by first | omega | (simp; done) | (simp; omega)) | assumption | rfl); exact rfl; exact (by first | omega | (simp; done) | (simp; omega)); exact (by first | omega | (simp; done) | (simp; omega)); exact (by first | assumption | exact rfl))); (try simp only [put, rowsOf, plR, List.all_cons, selE, ovr, setH, del, cellsA, splice, isV, List.nil_append, List.cons_append, List.map_cons, List.map_nil, List.length_cons, List.length_nil, List.set_cons_zero, List.set_cons_succ, List.take_succ_cons, List.take_zero, List.take_nil, List.drop_succ_cons, List.drop_zero, List.drop_nil, List.append_nil, List.all_cons, List.all_nil, Bool.and_true, Bool.true_and, Bool.and_false, Bool.false_and, Nat.reduceAdd, Nat.zero_add, Nat.add_zero, Nat.reduceEqDiff, if_true, if_false, reduceIte]))
    | (show AW _ _ _ _ _ _ _ _; first | refine aw_region ?_ | (refine aw_seqk ?_; intro K hK) | (apply aw_cond_t; exact rfl; exact rfl) | (apply aw_cond_f; exact rfl; exact (by assumption)) | refine aw_ret ?_ | refine aw_exit ?_)
    | refine thn_n ?_
    | (refine hK _ _ _ ?_; clear hK K)
    | refine thn_e ?_
    | refine inb_same ?_
    | (clear hK K; refine hK _ _ _ ?_; clear hK K))); all_goals (repeat (clear hK K)))
      exact fin_r (fin_m (id := 2) (t := 4) (len := o.length + 1) (rows := o.map inL ++ [[.v (.int .i64 x)]]) rfl rfl _ _ (by simp) (by rw [List.map_append]; rfl))
theorem bo_get {m i : Nat} {ix : List Int} (h : i < m) : ((mb m ix).map boL)[0 + ((i : Int)).toNat]? = some [.v (.bool (ix.any fun y => y == (i : Int)))] := by
  rw [Nat.zero_add, Int.toNat_natCast]; simp [mb, h, boL]
set_option maxHeartbeats 4000000 in
theorem specSpan_bad_ro (n : Int) (ls : List Ln) (hn : ls.length ≤ 1048576) (h : bkB n ls = false) (k : Nat) : RO Try.prog 30 [.agg (bkL n ls)] k (.tup [.v (.slice none 0 0), .v (.int .i64 1)]) [] k := by
  have b1 : (!bkB n ls) = true := by rw [h]; rfl
  refine RO.ofp Try.func30 Try.ntmps30 rfl (goFn_of Try.func30 rfl (by kernel_rfl)) rfl rfl rfl ?_
  unfold bkL
  ((repeat' (first
    | (show SQ _ _ _ _ _ _ _ _; first | apply sq_nil | (apply q_assign; exact rfl; exact rfl) | (apply q_not; exact rfl; exact rfl))
    | (show SQ _ _ _ _ _ _ _ _; (first | (apply q_box; exact rfl; exact rfl; exact rfl) | (apply q_callU; exact rfl; exact rfl; exact rfl; exact FzL.of rfl; exact l25Ok_ro n ls hn _)); (try simp only [put, rowsOf, plR, List.all_cons, selE, ovr, setH, del, cellsA, splice, isV, List.nil_append, List.cons_append, List.map_cons, List.map_nil, List.length_cons, List.length_nil, List.set_cons_zero, List.set_cons_succ, List.take_succ_cons, List.take_zero, List.take_nil, List.drop_succ_cons, List.drop_zero, List.drop_nil, List.append_nil, List.all_cons, List.all_nil, Bool.and_true, Bool.true_and, Bool.and_false, Bool.false_and, Nat.reduceAdd, Nat.zero_add, Nat.add_zero, Nat.reduceEqDiff, if_true, if_false, reduceIte]))
    | (show AW _ _ _ _ _ _ _ _; first | refine aw_region ?_ | (refine aw_seqk ?_; intro K hK) | (apply aw_cond_t; exact rfl; exact (by assumption)) | refine aw_ret ?_)
    | refine thn_n ?_
    | (refine hK _ _ _ ?_; clear hK K)
    | refine thn_r ?_)); all_goals (repeat (clear hK K)))
  all_goals refine fin_r (fin_p (.r2 _ _ _ _ (.tmp _ _ rfl) (.tmp _ _ rfl)) ?_ rfl rfl rfl)
  all_goals rfl
theorem specSpan_none (n : Int) (ls : List Ln) (hn : ls.length ≤ 1048576) (h32 : ls.length ≤ 32) (h : bkB n ls = true) (hv : (((treK n ls).length : Int) ≠ n - 1)) (k : Nat) : RO Try.prog 30 [.agg (bkL n ls)] k (.tup [.v (.slice none 0 0), .v (.int .i64 3)]) [] k := by
  have b1 : (!bkB n ls) = false := by rw [h]; rfl
  obtain ⟨hN, hL⟩ := bkB_in h
  have hok := l25Ok_ro n ls hn
  have hPa := fun may hm => l25Parts_ro n ls may hN hn hm hL
  have hli : (ls.map lnL).length = ls.length := List.length_map _
  have hyl := ordK_len ls
  have hyi := fun i hi => ordK_in (ls := ls) (i := i) hi
  have hyn : (ordK ls).Nodup := (ordK_perm ls).nodup_iff.2 ((part0_up _).imp fun {a b} h e => by omega)
  have hord := fun t ht => amn_ord (ls := ls) (t := t) ht
  have hTd : spT n ls (ordK ls) ls.length = treK n ls := rfl
  have hs0 : So.srt [] = [] := by simp [So.srt]
  generalize treK n ls = Tk at *
  generalize ordK ls = ys at *
  refine RO.ofp Try.func30 Try.ntmps30 rfl (goFn_of Try.func30 rfl (by kernel_rfl)) rfl rfl rfl ?_
  unfold bkL at hok hPa ⊢
  ((repeat' (first
    | (show SQ _ _ _ _ _ _ _ _; first | apply sq_nil | (apply q_assign; exact rfl; exact rfl) | (apply q_fieldAddr; exact rfl; exact rfl; exact (ty rfl); exact rfl; exact rfl; exact rfl; exact rfl) | (apply q_not; exact rfl; exact rfl) | (apply q_lend; exact rfl; exact rfl; exact (ty rfl); exact rfl) | (apply q_ld1p; exact rfl; exact rfl; exact (ty rfl); exact rfl; exact rfl; exact (by first | rfl | assumption | ((try simp only [Nat.zero_add]); refine List.getElem?_set_self ?_; (try simp only [List.length_set]); assumption)); exact rfl))
    | (show SQ _ _ _ _ _ _ _ _; (first | (apply q_box; exact rfl; exact rfl; exact rfl) | (apply q_mks; exact rfl; exact rfl; exact rfl; exact (ty rfl); exact rfl; exact (by first | omega | (simp; done) | (simp; omega)); exact (by first | omega | (simp; done) | (simp; omega)); exact (by first | omega | (simp; done) | (simp; omega)); exact (by first | omega | (simp; done) | (simp; omega)); exact rfl; exact rfl) | (apply q_build0; exact rfl; exact (ty rfl); exact rfl) | (apply q_callU; exact rfl; exact rfl; exact rfl; exact FzL.of rfl; exact hok _)); (try simp only [put, rowsOf, plR, List.all_cons, selE, ovr, setH, del, cellsA, splice, isV, List.nil_append, List.cons_append, List.map_cons, List.map_nil, List.length_cons, List.length_nil, List.set_cons_zero, List.set_cons_succ, List.take_succ_cons, List.take_zero, List.take_nil, List.drop_succ_cons, List.drop_zero, List.drop_nil, List.append_nil, List.all_cons, List.all_nil, Bool.and_true, Bool.true_and, Bool.and_false, Bool.false_and, Nat.reduceAdd, Nat.zero_add, Nat.add_zero, Nat.reduceEqDiff, if_true, if_false, reduceIte]))
    | (show AW _ _ _ _ _ _ _ _; first | refine aw_region ?_ | (refine aw_seqk ?_; intro K hK) | refine aw_block ?_ | (apply aw_cond_f; exact rfl; exact (by assumption)) | refine aw_skip ?_)
    | refine thn_n ?_
    | (refine hK _ _ _ ?_; clear hK K))); all_goals (repeat (clear hK K)))
  refine aw_loop (ρ := id) (ι := Nat) (fun t => ([(7, .v (.int .i64 t)), (6, .sl 3 0 (So.srt (spT n ls ys t)).length), (5, .sl 2 0 ls.length), (4, .sl 1 0 ls.length), (1, .ptr 0 0 0)],
      [(0, ⟨31, 2, false, [[.v (.int .i64 n), .dsl 4 (ls.map lnL)]]⟩), (1, ⟨4, 1, true, (mb ls.length (spT n ls ys t)).map boL⟩), (2, ⟨4, 1, true, (mb ls.length (ys.take t)).map boL⟩), (3, ⟨2, 1, true, (So.srt (spT n ls ys t)).map inL⟩)], 4))
    (fun t => t ≤ ls.length) (fun t => ls.length - t) 0 (Nat.zero_le _) ⟨⟨lk_i rfl rfl, lk_s rfl rfl (by (try dsimp only); rw [show spT n ls ys 0 = [] from rfl, hs0]; rfl) rfl, lk_s rfl rfl (by simp) rfl, lk_s rfl rfl (by simp) rfl, lk_r rfl rfl rfl, trivial⟩,
      ⟨⟨rfl, rfl, rfl⟩, lkb rfl rfl rfl (by (try dsimp only); rw [show spT n ls ys 0 = [] from rfl, mb_nil, List.map_replicate, hli]; rfl) rfl, lkb rfl rfl rfl (by (try dsimp only); rw [List.take_zero, mb_nil, List.map_replicate, hli]; rfl) rfl, lkb rfl rfl rfl (by (try dsimp only); rw [show spT n ls ys 0 = [] from rfl, hs0]; rfl) rfl, trivial⟩, by rfl, pin_0⟩ ?_
  intro t ht
  have hsl := spT_len n ls ys t
  have hm1 : ((mb ls.length (spT n ls ys t)).map boL).length = ls.length := by rw [List.length_map, mb_len]
  have hm2 : ((mb ls.length (ys.take t)).map boL).length = ls.length := by rw [List.length_map, mb_len]
  have hm3 : ((So.srt (spT n ls ys t)).map inL).length = (So.srt (spT n ls ys t)).length := List.length_map _
  by_cases c2 : t < ls.length
  · have b2 : decide ((t : Int) < ((ls.map lnL).length : Int)) = true := by rw [hli]; simpa using c2
    ((repeat' (first
    | (show SQ _ _ _ _ _ _ _ _; first | apply sq_nil | (apply q_move; exact rfl; exact rfl) | (apply q_assign; exact rfl; exact rfl) | (apply q_fieldAddr; exact rfl; exact rfl; exact (ty rfl); exact rfl; exact rfl; exact rfl; exact rfl) | (apply q_lend; exact rfl; exact rfl; exact (ty rfl); exact rfl) | (apply q_lss; exact rfl; exact rfl; exact rfl) | (apply q_ld1p; exact rfl; exact rfl; exact (ty rfl); exact rfl; exact rfl; exact (by first | rfl | assumption | ((try simp only [Nat.zero_add]); refine List.getElem?_set_self ?_; (try simp only [List.length_set]); assumption)); exact rfl))
    | (show AW _ _ _ _ _ _ _ _; first | refine aw_region ?_ | (refine aw_seqk ?_; intro K hK) | refine aw_block ?_ | (apply aw_cond_t; exact rfl; exact (by assumption)) | refine aw_skip ?_)
    | refine thn_n ?_
    | (refine hK _ _ _ ?_; clear hK K))); all_goals (repeat (clear hK K)))
    refine aw_loop (ρ := id) (ι := Nat) (fun i => ([(9, .v (.int .i64 i)), (8, .v (.int .i64 (amn ls (ys.take t) i))), (7, .v (.int .i64 t)), (6, .sl 3 0 (So.srt (spT n ls ys t)).length), (5, .sl 2 0 ls.length), (4, .sl 1 0 ls.length), (1, .ptr 0 0 0)],
      [(0, ⟨31, 2, false, [[.v (.int .i64 n), .dsl 4 (ls.map lnL)]]⟩), (1, ⟨4, 1, true, (mb ls.length (spT n ls ys t)).map boL⟩), (2, ⟨4, 1, true, (mb ls.length (ys.take t)).map boL⟩), (3, ⟨2, 1, true, (So.srt (spT n ls ys t)).map inL⟩)], 4))
      (fun i => i ≤ ls.length) (fun i => ls.length - i) 0 (Nat.zero_le _) ⟨by (repeat (refine ⟨by first | exact lk_i rfl rfl | exact lk_r rfl rfl rfl | exact lk_s rfl rfl rfl rfl, ?_⟩)); exact trivial, by (repeat (refine ⟨by first | exact ⟨rfl, rfl, rfl⟩, ?_⟩)); exact trivial, by rfl, by exact pin_0⟩ ?_
    intro i hi
    have hsp := amn_spec ls (ys.take t) i
    by_cases c3 : i < ls.length
    · have b3 : decide ((i : Int) < ((ls.map lnL).length : Int)) = true := by rw [hli]; simpa using c3
      have hbo := bo_get (ix := ys.take t) c3
      have hw : IntKind.i64.wrap ((i : Int) + 1) = ((i + 1 : Nat) : Int) := by rw [IntWalk.i64_in _ (by omega)]; omega
      have hst : amn ls (ys.take t) (i + 1) = if (!((ys.take t).any fun y => y == (i : Int)) && (decide (amn ls (ys.take t) i < 0) || decide (kO ls (i : Int) < kO ls (amn ls (ys.take t) i)))) = true then (i : Int) else amn ls (ys.take t) i := rfl
      have hri : (ls.map lnL)[((i : Int)).toNat]? = some (lnL ls[i]) := by simp [c3]
      have hki : kO ls (i : Int) = ls[i].o := by simp [kO, List.getD, c3]
      rw [hki] at hst
      rw [lnL_eq] at hri
      generalize hNe : amn ls (ys.take t) (i + 1) = Ne at *
      generalize amn ls (ys.take t) i = A at *
      cases hsn : ((ys.take t).any fun y => y == (i : Int)) with
      | true =>
        rw [hsn] at hbo hst
        have b4 : (!true) = false := rfl
        rw [if_neg (by simp)] at hst
        ((repeat' (first
    | (show SQ _ _ _ _ _ _ _ _; first | apply sq_nil | (apply q_move; exact rfl; exact rfl) | (apply q_assign; exact rfl; exact rfl) | (apply q_fieldAddr; exact rfl; exact rfl; exact (ty rfl); exact rfl; exact rfl; exact rfl; exact rfl) | (apply q_lend; exact rfl; exact rfl; exact (ty rfl); exact rfl) | (apply q_add; exact rfl; exact rfl; exact rfl) | (apply q_lss; exact rfl; exact rfl; exact rfl) | (apply q_ld1p; exact rfl; exact rfl; exact (ty rfl); exact rfl; exact rfl; exact (by first | rfl | assumption | ((try simp only [Nat.zero_add]); refine List.getElem?_set_self ?_; (try simp only [List.length_set]); assumption)); exact rfl))
    | (show DE _ _ _ _ _ _ _ _ _ _ _ _; first | (apply e_move; exact rfl; exact rfl; exact rfl) | (apply e_pick_f; exact rfl; exact rfl; exact rfl; exact (by first | assumption | exact rfl); exact rfl) | (apply e_not; exact rfl; exact rfl; exact rfl) | (apply e_ixl; exact rfl; exact rfl; exact rfl; exact (ty rfl); exact rfl; exact rfl; exact rfl; exact (by first | omega | (simp; done) | (simp; omega)); exact (by first | omega | (simp; done) | (simp; omega)); exact rfl) | (apply e_ld1p; exact rfl; exact rfl; exact (ty rfl); exact rfl; exact rfl; exact (by first | rfl | assumption | ((try simp only [Nat.zero_add]); refine List.getElem?_set_self ?_; (try simp only [List.length_set]); assumption)); exact rfl; exact rfl) | (apply e_s; exact rfl; exact rfl; exact rfl; exact (by assumption); exact rfl) | (apply e_sU; exact rfl; exact rfl; exact rfl; exact rfl; exact rfl))
    | (show DE _ _ _ _ _ _ _ _ _ _ _ _; (first | (apply dr_nil; exact trivial)); (try simp only [put, rowsOf, plR, List.all_cons, selE, ovr, setH, del, cellsA, splice, isV, List.nil_append, List.cons_append, List.map_cons, List.map_nil, List.length_cons, List.length_nil, List.set_cons_zero, List.set_cons_succ, List.take_succ_cons, List.take_zero, List.take_nil, List.drop_succ_cons, List.drop_zero, List.drop_nil, List.append_nil, List.all_cons, List.all_nil, Bool.and_true, Bool.true_and, Bool.and_false, Bool.false_and, Nat.reduceAdd, Nat.zero_add, Nat.add_zero, Nat.reduceEqDiff, if_true, if_false, reduceIte]))
    | (show AW _ _ _ _ _ _ _ _; first | refine aw_region ?_ | (refine aw_seqk ?_; intro K hK) | refine aw_block ?_ | (apply aw_cond_f; exact rfl; exact rfl) | (apply aw_cond_t; exact rfl; exact (by assumption)) | refine aw_skip ?_ | refine aw_drawE (id := 13) [0, 0, 3, 7, 15, 31, 63, 127, 255, 511, 1023, 511, 4095, 8191, 16383, 511, 33279, 511, 229887, 492031, 1016319, 2097151, 4194303, 8388607] [0, 0, 1, 1, 0, 0, 0, 0, 0, 0, 1, 0, 0, 0, 1, 0, 1, 0, 0, 0, 1, 0, 0, 0] mixed (by kernel_rfl) ?_)
    | refine thn_n ?_
    | (refine hK _ _ _ ?_; clear hK K)
    | refine inb_n ?_)); all_goals (repeat (clear hK K)))
        all_goals (refine ⟨i + 1, id, c3, by omega, ?_⟩; (try dsimp only); rw [hNe, hst, ← hw]; exact ⟨by (repeat (refine ⟨by first | exact lk_i rfl rfl | exact lk_r rfl rfl rfl | exact lk_s rfl rfl rfl rfl, ?_⟩)); exact trivial, by (repeat (refine ⟨by first | exact ⟨rfl, rfl, rfl⟩, ?_⟩)); exact trivial, by rfl, by exact pin_0⟩)
      | false =>
        rw [hsn] at hbo hst
        have b4 : (!false) = true := rfl
        by_cases c4 : A < 0
        · have b5 : decide (A < 0) = true := by simpa using c4
          rw [if_pos (by simp [c4])] at hst
          ((repeat' (first
    | (show SQ _ _ _ _ _ _ _ _; first | apply sq_nil | (apply q_move; exact rfl; exact rfl) | (apply q_assign; exact rfl; exact rfl) | (apply q_fieldAddr; exact rfl; exact rfl; exact (ty rfl); exact rfl; exact rfl; exact rfl; exact rfl) | (apply q_lend; exact rfl; exact rfl; exact (ty rfl); exact rfl) | (apply q_add; exact rfl; exact rfl; exact rfl) | (apply q_lss; exact rfl; exact rfl; exact rfl) | (apply q_ld1p; exact rfl; exact rfl; exact (ty rfl); exact rfl; exact rfl; exact (by first | rfl | assumption | ((try simp only [Nat.zero_add]); refine List.getElem?_set_self ?_; (try simp only [List.length_set]); assumption)); exact rfl))
    | (show DE _ _ _ _ _ _ _ _ _ _ _ _; first | (apply e_move; exact rfl; exact rfl; exact rfl) | (apply e_pick_t; exact rfl; exact rfl; exact rfl; exact (by first | assumption | exact rfl); exact rfl) | (apply e_not; exact rfl; exact rfl; exact rfl) | (apply e_lss; exact rfl; exact rfl; exact rfl; exact rfl) | (apply e_ixl; exact rfl; exact rfl; exact rfl; exact (ty rfl); exact rfl; exact rfl; exact rfl; exact (by first | omega | (simp; done) | (simp; omega)); exact (by first | omega | (simp; done) | (simp; omega)); exact rfl) | (apply e_ld1p; exact rfl; exact rfl; exact (ty rfl); exact rfl; exact rfl; exact (by first | rfl | assumption | ((try simp only [Nat.zero_add]); refine List.getElem?_set_self ?_; (try simp only [List.length_set]); assumption)); exact rfl; exact rfl) | (apply e_g; exact rfl; exact rfl; exact rfl; exact (by assumption)) | (apply e_s; exact rfl; exact rfl; exact rfl; exact (by assumption); exact rfl))
    | (show DE _ _ _ _ _ _ _ _ _ _ _ _; (first | (apply dr_nil; exact trivial)); (try simp only [put, rowsOf, plR, List.all_cons, selE, ovr, setH, del, cellsA, splice, isV, List.nil_append, List.cons_append, List.map_cons, List.map_nil, List.length_cons, List.length_nil, List.set_cons_zero, List.set_cons_succ, List.take_succ_cons, List.take_zero, List.take_nil, List.drop_succ_cons, List.drop_zero, List.drop_nil, List.append_nil, List.all_cons, List.all_nil, Bool.and_true, Bool.true_and, Bool.and_false, Bool.false_and, Nat.reduceAdd, Nat.zero_add, Nat.add_zero, Nat.reduceEqDiff, if_true, if_false, reduceIte]))
    | (show AW _ _ _ _ _ _ _ _; first | refine aw_region ?_ | (refine aw_seqk ?_; intro K hK) | refine aw_block ?_ | (apply aw_cond_t; exact rfl; exact rfl) | (apply aw_cond_t; exact rfl; exact (by assumption)) | refine aw_skip ?_ | refine aw_drawE (id := 13) [0, 0, 3, 7, 15, 31, 63, 127, 255, 511, 1023, 511, 4095, 8191, 16383, 511, 33279, 511, 229887, 492031, 1016319, 2097151, 4194303, 8388607] [0, 0, 1, 1, 0, 0, 0, 0, 0, 0, 1, 0, 0, 0, 1, 0, 1, 0, 0, 0, 1, 0, 0, 0] mixed (by kernel_rfl) ?_)
    | refine thn_n ?_
    | (refine hK _ _ _ ?_; clear hK K)
    | refine inb_n ?_)); all_goals (repeat (clear hK K)))
          all_goals (refine ⟨i + 1, id, c3, by omega, ?_⟩; (try dsimp only); rw [hNe, hst, ← hw]; exact ⟨by (repeat (refine ⟨by first | exact lk_i rfl rfl | exact lk_r rfl rfl rfl | exact lk_s rfl rfl rfl rfl, ?_⟩)); exact trivial, by (repeat (refine ⟨by first | exact ⟨rfl, rfl, rfl⟩, ?_⟩)); exact trivial, by rfl, by exact pin_0⟩)
        · have b5 : decide (A < 0) = false := by simpa using c4
          obtain ⟨a, rfl⟩ : ∃ a : Nat, A = a := ⟨A.toNat, by omega⟩
          have hai : a < ls.length := by rcases hsp with ⟨h1, _⟩ | ⟨_, h2, _⟩ <;> omega
          have hra : (ls.map lnL)[((a : Int)).toNat]? = some (lnL ls[a]) := by simp [hai]
          have hka : kO ls (a : Int) = ls[a].o := by simp [kO, List.getD, hai]
          rw [lnL_eq] at hra
          rw [hka] at hst
          by_cases c5 : ls[i].o < ls[a].o
          · have b6 : decide (ls[i].o < ls[a].o) = true := by simpa using c5
            rw [if_pos (by simp [c5])] at hst
            ((repeat' (first
    | (show SQ _ _ _ _ _ _ _ _; first | apply sq_nil | (apply q_move; exact rfl; exact rfl) | (apply q_assign; exact rfl; exact rfl) | (apply q_fieldAddr; exact rfl; exact rfl; exact (ty rfl); exact rfl; exact rfl; exact rfl; exact rfl) | (apply q_lend; exact rfl; exact rfl; exact (ty rfl); exact rfl) | (apply q_add; exact rfl; exact rfl; exact rfl) | (apply q_lss; exact rfl; exact rfl; exact rfl) | (apply q_ld1p; exact rfl; exact rfl; exact (ty rfl); exact rfl; exact rfl; exact (by first | rfl | assumption | ((try simp only [Nat.zero_add]); refine List.getElem?_set_self ?_; (try simp only [List.length_set]); assumption)); exact rfl))
    | (show DE _ _ _ _ _ _ _ _ _ _ _ _; first | (apply e_move; exact rfl; exact rfl; exact rfl) | (apply e_pick_t; exact rfl; exact rfl; exact rfl; exact (by first | assumption | exact rfl); exact rfl) | (apply e_pick_f; exact rfl; exact rfl; exact rfl; exact (by first | assumption | exact rfl); exact rfl) | (apply e_fieldAddr; exact rfl; exact rfl; exact (ty rfl); exact rfl; exact rfl; exact rfl; exact rfl; exact rfl) | (apply e_not; exact rfl; exact rfl; exact rfl) | (apply e_lss; exact rfl; exact rfl; exact rfl; exact rfl) | (apply e_ixd; exact rfl; exact rfl; exact rfl; exact (ty rfl); exact rfl; exact (by first | omega | (simp; done) | (simp; omega)); exact (by first | omega | (simp; done) | (simp; omega)); exact (by first | rfl | assumption); exact rfl) | (apply e_ixl; exact rfl; exact rfl; exact rfl; exact (ty rfl); exact rfl; exact rfl; exact rfl; exact (by first | omega | (simp; done) | (simp; omega)); exact (by first | omega | (simp; done) | (simp; omega)); exact rfl) | (apply e_ld1d; exact rfl; exact rfl; exact (ty rfl); exact rfl; exact rfl; exact rfl) | (apply e_ld1p; exact rfl; exact rfl; exact (ty rfl); exact rfl; exact rfl; exact (by first | rfl | assumption | ((try simp only [Nat.zero_add]); refine List.getElem?_set_self ?_; (try simp only [List.length_set]); assumption)); exact rfl; exact rfl) | (apply e_g; exact rfl; exact rfl; exact rfl; exact (by assumption)))
    | (show DE _ _ _ _ _ _ _ _ _ _ _ _; (first | (apply dr_nil; exact trivial)); (try simp only [put, rowsOf, plR, List.all_cons, selE, ovr, setH, del, cellsA, splice, isV, List.nil_append, List.cons_append, List.map_cons, List.map_nil, List.length_cons, List.length_nil, List.set_cons_zero, List.set_cons_succ, List.take_succ_cons, List.take_zero, List.take_nil, List.drop_succ_cons, List.drop_zero, List.drop_nil, List.append_nil, List.all_cons, List.all_nil, Bool.and_true, Bool.true_and, Bool.and_false, Bool.false_and, Nat.reduceAdd, Nat.zero_add, Nat.add_zero, Nat.reduceEqDiff, if_true, if_false, reduceIte]))
    | (show AW _ _ _ _ _ _ _ _; first | refine aw_region ?_ | (refine aw_seqk ?_; intro K hK) | refine aw_block ?_ | (apply aw_cond_t; exact rfl; exact (by assumption)) | refine aw_skip ?_ | refine aw_drawE (id := 13) [0, 0, 3, 7, 15, 31, 63, 127, 255, 511, 1023, 511, 4095, 8191, 16383, 511, 33279, 511, 229887, 492031, 1016319, 2097151, 4194303, 8388607] [0, 0, 1, 1, 0, 0, 0, 0, 0, 0, 1, 0, 0, 0, 1, 0, 1, 0, 0, 0, 1, 0, 0, 0] mixed (by kernel_rfl) ?_)
    | refine thn_n ?_
    | (refine hK _ _ _ ?_; clear hK K)
    | refine inb_n ?_)); all_goals (repeat (clear hK K)))
            all_goals (refine ⟨i + 1, id, c3, by omega, ?_⟩; (try dsimp only); rw [hNe, hst, ← hw]; exact ⟨by (repeat (refine ⟨by first | exact lk_i rfl rfl | exact lk_r rfl rfl rfl | exact lk_s rfl rfl rfl rfl, ?_⟩)); exact trivial, by (repeat (refine ⟨by first | exact ⟨rfl, rfl, rfl⟩, ?_⟩)); exact trivial, by rfl, by exact pin_0⟩)
          · have b6 : decide (ls[i].o < ls[a].o) = false := by simpa using c5
            rw [if_neg (by first | (simp [c5]; done) | (simp [c5]; omega))] at hst
            ((repeat' (first
    | (show SQ _ _ _ _ _ _ _ _; first | apply sq_nil | (apply q_move; exact rfl; exact rfl) | (apply q_assign; exact rfl; exact rfl) | (apply q_fieldAddr; exact rfl; exact rfl; exact (ty rfl); exact rfl; exact rfl; exact rfl; exact rfl) | (apply q_lend; exact rfl; exact rfl; exact (ty rfl); exact rfl) | (apply q_add; exact rfl; exact rfl; exact rfl) | (apply q_lss; exact rfl; exact rfl; exact rfl) | (apply q_ld1p; exact rfl; exact rfl; exact (ty rfl); exact rfl; exact rfl; exact (by first | rfl | assumption | ((try simp only [Nat.zero_add]); refine List.getElem?_set_self ?_; (try simp only [List.length_set]); assumption)); exact rfl))
    | (show DE _ _ _ _ _ _ _ _ _ _ _ _; first | (apply e_move; exact rfl; exact rfl; exact rfl) | (apply e_pick_t; exact rfl; exact rfl; exact rfl; exact (by first | assumption | exact rfl); exact rfl) | (apply e_pick_f; exact rfl; exact rfl; exact rfl; exact (by first | assumption | exact rfl); exact rfl) | (apply e_fieldAddr; exact rfl; exact rfl; exact (ty rfl); exact rfl; exact rfl; exact rfl; exact rfl; exact rfl) | (apply e_not; exact rfl; exact rfl; exact rfl) | (apply e_lss; exact rfl; exact rfl; exact rfl; exact rfl) | (apply e_ixd; exact rfl; exact rfl; exact rfl; exact (ty rfl); exact rfl; exact (by first | omega | (simp; done) | (simp; omega)); exact (by first | omega | (simp; done) | (simp; omega)); exact (by first | rfl | assumption); exact rfl) | (apply e_ixl; exact rfl; exact rfl; exact rfl; exact (ty rfl); exact rfl; exact rfl; exact rfl; exact (by first | omega | (simp; done) | (simp; omega)); exact (by first | omega | (simp; done) | (simp; omega)); exact rfl) | (apply e_ld1d; exact rfl; exact rfl; exact (ty rfl); exact rfl; exact rfl; exact rfl) | (apply e_ld1p; exact rfl; exact rfl; exact (ty rfl); exact rfl; exact rfl; exact (by first | rfl | assumption | ((try simp only [Nat.zero_add]); refine List.getElem?_set_self ?_; (try simp only [List.length_set]); assumption)); exact rfl; exact rfl) | (apply e_g; exact rfl; exact rfl; exact rfl; exact (by assumption)))
    | (show DE _ _ _ _ _ _ _ _ _ _ _ _; (first | (apply dr_nil; exact trivial)); (try simp only [put, rowsOf, plR, List.all_cons, selE, ovr, setH, del, cellsA, splice, isV, List.nil_append, List.cons_append, List.map_cons, List.map_nil, List.length_cons, List.length_nil, List.set_cons_zero, List.set_cons_succ, List.take_succ_cons, List.take_zero, List.take_nil, List.drop_succ_cons, List.drop_zero, List.drop_nil, List.append_nil, List.all_cons, List.all_nil, Bool.and_true, Bool.true_and, Bool.and_false, Bool.false_and, Nat.reduceAdd, Nat.zero_add, Nat.add_zero, Nat.reduceEqDiff, if_true, if_false, reduceIte]))
    | (show AW _ _ _ _ _ _ _ _; first | refine aw_region ?_ | (refine aw_seqk ?_; intro K hK) | refine aw_block ?_ | (apply aw_cond_t; exact rfl; exact (by assumption)) | (apply aw_cond_f; exact rfl; exact (by assumption)) | refine aw_skip ?_ | refine aw_drawE (id := 13) [0, 0, 3, 7, 15, 31, 63, 127, 255, 511, 1023, 511, 4095, 8191, 16383, 511, 33279, 511, 229887, 492031, 1016319, 2097151, 4194303, 8388607] [0, 0, 1, 1, 0, 0, 0, 0, 0, 0, 1, 0, 0, 0, 1, 0, 1, 0, 0, 0, 1, 0, 0, 0] mixed (by kernel_rfl) ?_)
    | refine thn_n ?_
    | (refine hK _ _ _ ?_; clear hK K)
    | refine inb_n ?_)); all_goals (repeat (clear hK K)))
            all_goals (refine ⟨i + 1, id, c3, by omega, ?_⟩; (try dsimp only); rw [hNe, hst, ← hw]; exact ⟨by (repeat (refine ⟨by first | exact lk_i rfl rfl | exact lk_r rfl rfl rfl | exact lk_s rfl rfl rfl rfl, ?_⟩)); exact trivial, by (repeat (refine ⟨by first | exact ⟨rfl, rfl, rfl⟩, ?_⟩)); exact trivial, by rfl, by exact pin_0⟩)
    · have b3 : decide ((i : Int) < ((ls.map lnL).length : Int)) = false := by rw [hli]; simpa using c3
      obtain rfl : i = ls.length := by omega
      rw [hord t c2]
      have hty : t < ys.length := by omega
      have hyx : ys.getD t 0 = ys[t] := by simp [List.getD, hty]
      obtain ⟨y0, y1⟩ := hyi t hty
      obtain ⟨a, ha⟩ : ∃ a : Nat, ys.getD t 0 = (a : Int) := ⟨(ys.getD t 0).toNat, by omega⟩
      rw [ha]
      have hal : a < ls.length := by omega
      have hra : (ls.map lnL)[((a : Int)).toNat]? = some (lnL ls[a]) := by simp [hal]
      rw [lnL_eq] at hra
      have hlt : lnAt ls (a : Int) = ls[a] := by simp [lnAt, List.getD, hal]
      obtain ⟨a0, a1, d0, d1⟩ := hL ls[a] (List.getElem_mem hal)
      have hbs := bo_get (ix := ys.take t) hal
      have hbm := bo_get (ix := spT n ls ys t) hal
      have hss : ((mb ls.length (ys.take t)).map boL).set ((a : Int)).toNat [.v (.bool true)] = (mb ls.length (ys.take (t + 1))).map boL := by
        rw [show ([AV.v (.bool true)]) = boL true from rfl, ← List.map_set, Int.toNat_natCast, mb_set hal, List.take_succ_eq_append_getElem hty, ← hyx, ha]
      have hsm : ((mb ls.length (spT n ls ys t)).map boL).set ((a : Int)).toNat [.v (.bool true)] = (mb ls.length (spT n ls ys t ++ [(a : Int)])).map boL := by
        rw [show ([AV.v (.bool true)]) = boL true from rfl, ← List.map_set, Int.toNat_natCast, mb_set hal]
      have hss0 := hss
      have hsm0 := hsm
      rw [← Nat.zero_add ((a : Int)).toNat] at hss0 hsm0
      obtain ⟨hnd, hsub⟩ := spT_nodup (n := n) (ls := ls) hyn t (by omega)
      have hmem := spT_mem (n := n) (ls := ls) (ys := ys) (i := t) (by omega)
      have hix : ∀ x ∈ spT n ls ys t, 0 ≤ x ∧ x < ls.length := fun x hx => by
        obtain ⟨j, hj, rfl⟩ := List.getElem_of_mem (hmem x hx); exact hyi j hj
      have hpr := part_reach hL hix ⟨a0, a1⟩ ⟨d0, d1⟩
      have hP := hPa (mb ls.length (spT n ls ys t)) (mb_len _ _)
      have hpl := parts_len n ls (mb ls.length (spT n ls ys t)) ls.length
      have hsu : spT n ls ys (t + 1) = if ((reachV n ls (spT n ls ys t) (lnAt ls (ys.getD t 0)).a).any fun y => y == (lnAt ls (ys.getD t 0)).b) = true then spT n ls ys t else spT n ls ys t ++ [ys.getD t 0] := rfl
      rw [ha, hlt] at hsu
      have hnd2 : (spT n ls ys t ++ [(a : Int)]).Nodup := by
        refine List.nodup_append.2 ⟨hnd, by simp, fun x hx y hy e => ?_⟩
        rw [List.mem_singleton] at hy
        have hm := hsub x hx
        rw [e, hy, ← ha, hyx] at hm
        obtain ⟨j, hj, e2⟩ := List.getElem_of_mem hm
        rw [List.length_take] at hj
        rw [List.getElem_take] at e2
        exact (List.pairwise_iff_getElem.1 hyn j t (by omega) (by omega) (by omega)) e2
      have hpu := put_srt hnd2
      have hPu := l00Put_ro (So.srt (spT n ls ys t)) (a : Int) (by rw [So.srt_len]; omega)
      rw [hpu] at hPu
      have hw : IntKind.i64.wrap ((t : Int) + 1) = ((t + 1 : Nat) : Int) := by rw [IntWalk.i64_in _ (by omega)]; omega
      generalize hNx : spT n ls ys (t + 1) = Nx at *
      generalize spT n ls ys t = ix at *
      generalize parts n ls (mb ls.length ix) ls.length = p at *
      generalize ((reachV n ls ix ls[a].a).any fun y => y == ls[a].b) = rc at *
      have hpm : (p.map inL).length = n.toNat := by rw [List.length_map, hpl]
      have a2 : ls[a].a.toNat < p.length := by omega
      have d2 : ls[a].b.toNat < p.length := by omega
      have hpa : (p.map inL)[0 + ls[a].a.toNat]? = some (inL (p.getD ls[a].a.toNat 0)) := by simp [List.getD, a2]
      have hpb : (p.map inL)[0 + ls[a].b.toNat]? = some (inL (p.getD ls[a].b.toNat 0)) := by simp [List.getD, d2]
      rw [inL_eq] at hpa hpb
      ((repeat' (first
    | (show SQ _ _ _ _ _ _ _ _; first | apply sq_nil | (apply q_move; exact rfl; exact rfl) | (apply q_assign; exact rfl; exact rfl) | (apply q_fieldAddr; exact rfl; exact rfl; exact (ty rfl); exact rfl; exact rfl; exact rfl; exact rfl) | (apply q_lend; exact rfl; exact rfl; exact (ty rfl); exact rfl) | (apply q_add; exact rfl; exact rfl; exact rfl) | (apply q_lss; exact rfl; exact rfl; exact rfl) | (apply q_ixl; exact rfl; exact rfl; exact rfl; exact (ty rfl); exact rfl; exact rfl; exact rfl; exact (by first | omega | (simp; done) | (simp; omega)); exact (by first | omega | (simp; done) | (simp; omega))) | (apply q_ld1p; exact rfl; exact rfl; exact (ty rfl); exact rfl; exact rfl; exact (by first | rfl | assumption | ((try simp only [Nat.zero_add]); refine List.getElem?_set_self ?_; (try simp only [List.length_set]); assumption)); exact rfl))
    | (show SQ _ _ _ _ _ _ _ _; (first | (apply q_store; exact rfl; exact rfl; exact (ty rfl); exact rfl; exact (by first | rfl | assumption | ((try simp only [Nat.zero_add]); refine List.getElem?_set_self ?_; (try simp only [List.length_set]); assumption)); exact rfl; exact rfl; exact rfl) | (apply q_callU; exact rfl; exact rfl; exact rfl; rotate_left; exact hP _; rotate_right; focus ((repeat' (first | exact FzL.nil | exact (by assumption : FzC _) _ | refine FzL.cons ?_ ?_ | exact Fz.of rfl | exact Fz.nil | exact Fz.emp | (apply Fz.fnC; assumption) | (apply Fz.sl2; exact rfl; exact (by first | omega | (simp; done) | (simp; omega)); first | exact rfl | exact dt_full (by first | omega | (simp; done) | (simp; omega)) | assumption) | apply Fz.agg | (apply Fz.ptrL; exact rfl; first | exact rfl | assumption) | apply Fz.fnL)); done)) | (apply q_callU; exact rfl; exact rfl; exact rfl; rotate_left; exact hPu _; rotate_right; focus ((repeat' (first | exact FzL.nil | exact (by assumption : FzC _) _ | refine FzL.cons ?_ ?_ | exact Fz.of rfl | exact Fz.nil | exact Fz.emp | (apply Fz.fnC; assumption) | (apply Fz.sl2; exact rfl; exact (by first | omega | (simp; done) | (simp; omega)); first | exact rfl | exact dt_full (by first | omega | (simp; done) | (simp; omega)) | assumption) | apply Fz.agg | (apply Fz.ptrL; exact rfl; first | exact rfl | assumption) | apply Fz.fnL)); done))); (try simp only [put, rowsOf, plR, List.all_cons, selE, ovr, setH, del, cellsA, splice, isV, List.nil_append, List.cons_append, List.map_cons, List.map_nil, List.length_cons, List.length_nil, List.set_cons_zero, List.set_cons_succ, List.take_succ_cons, List.take_zero, List.take_nil, List.drop_succ_cons, List.drop_zero, List.drop_nil, List.append_nil, List.all_cons, List.all_nil, Bool.and_true, Bool.true_and, Bool.and_false, Bool.false_and, Nat.reduceAdd, Nat.zero_add, Nat.add_zero, Nat.reduceEqDiff, if_true, if_false, reduceIte]))
    | (show DE _ _ _ _ _ _ _ _ _ _ _ _; first | (apply e_move; exact rfl; exact rfl; exact rfl) | (apply e_fieldAddr; exact rfl; exact rfl; exact (ty rfl); exact rfl; exact rfl; exact rfl; exact rfl; exact rfl) | (apply e_neq; exact rfl; exact rfl; exact rfl; exact rfl) | (apply e_ixd; exact rfl; exact rfl; exact rfl; exact (ty rfl); exact rfl; exact (by first | omega | (simp; done) | (simp; omega)); exact (by first | omega | (simp; done) | (simp; omega)); exact (by first | rfl | assumption); exact rfl) | (apply e_ixl; exact rfl; exact rfl; exact rfl; exact (ty rfl); exact rfl; exact rfl; exact rfl; exact (by first | omega | (simp; done) | (simp; omega)); exact (by first | omega | (simp; done) | (simp; omega)); exact rfl) | (apply e_ld1d; exact rfl; exact rfl; exact (ty rfl); exact rfl; exact rfl; exact rfl) | (apply e_ld1p; exact rfl; exact rfl; exact (ty rfl); exact rfl; exact rfl; exact (by first | rfl | assumption | ((try simp only [Nat.zero_add]); refine List.getElem?_set_self ?_; (try simp only [List.length_set]); assumption)); exact rfl; exact rfl))
    | (show DE _ _ _ _ _ _ _ _ _ _ _ _; (first | (apply dr_nil; exact trivial)); (try simp only [put, rowsOf, plR, List.all_cons, selE, ovr, setH, del, cellsA, splice, isV, List.nil_append, List.cons_append, List.map_cons, List.map_nil, List.length_cons, List.length_nil, List.set_cons_zero, List.set_cons_succ, List.take_succ_cons, List.take_zero, List.take_nil, List.drop_succ_cons, List.drop_zero, List.drop_nil, List.append_nil, List.all_cons, List.all_nil, Bool.and_true, Bool.true_and, Bool.and_false, Bool.false_and, Nat.reduceAdd, Nat.zero_add, Nat.add_zero, Nat.reduceEqDiff, if_true, if_false, reduceIte]))
    | (show AW _ _ _ _ _ _ _ _; first | refine aw_region ?_ | (refine aw_seqk ?_; intro K hK) | (apply aw_cond_f; exact rfl; exact (by assumption)) | refine aw_exit ?_ | refine aw_skip ?_ | refine aw_drawE (id := 17) [0, 0, 2, 0, 14, 30, 62, 127, 255, 0, 0, 1024, 0, 7168, 15360, 31744, 65024, 130560, 262143] [0, 0, 1, 0, 0, 0, 1, 1, 1, 0, 0, 1, 0, 0, 0, 1, 1, 1, 0] mixed (by kernel_rfl) ?_ | (apply aw_ite; exact rfl; all_goals intro h))
    | refine thn_n ?_
    | (refine hK _ _ _ ?_; clear hK K)
    | refine thn_e ?_
    | refine inb_same ?_
    | refine inb_n ?_
    | (simp only [hss, hss0, hsm, hsm0])
    | (clear hK K; refine hK _ _ _ ?_; clear hK K))); all_goals (repeat (clear hK K)))
      · have hb : rc = false := by have h := hpr.symm.trans ‹_›; rwa [Bool.not_eq_true'] at h
        rw [if_neg (by rw [hb]; simp)] at hsu
        refine ⟨t + 1, fun j => [0, 1, 2, 5].getD j 0, c2, by omega, ?_⟩
        (try dsimp only); rw [hNx, hsu, ← hw]
        exact ⟨by (repeat (refine ⟨by first | exact lk_i rfl rfl | exact lk_r rfl rfl rfl | exact lk_s rfl rfl rfl rfl, ?_⟩)); exact trivial, by (repeat (refine ⟨by first | exact ⟨rfl, rfl, rfl⟩, ?_⟩)); exact trivial, by rfl, by exact pin_0⟩
      · have hb : rc = true := by have h := hpr.symm.trans ‹_›; rwa [Bool.not_eq_false'] at h
        rw [if_pos hb] at hsu
        refine ⟨t + 1, id, c2, by omega, ?_⟩
        (try dsimp only); rw [hNx, hsu, ← hw]
        exact ⟨by (repeat (refine ⟨by first | exact lk_i rfl rfl | exact lk_r rfl rfl rfl | exact lk_s rfl rfl rfl rfl, ?_⟩)); exact trivial, by (repeat (refine ⟨by first | exact ⟨rfl, rfl, rfl⟩, ?_⟩)); exact trivial, by rfl, by exact pin_0⟩
  have b2 : decide ((t : Int) < ((ls.map lnL).length : Int)) = false := by rw [hli]; simpa using c2
  obtain rfl : t = ls.length := by omega
  rw [hTd] at hsl hm1 hm3 ⊢
  have hw4 : IntKind.i64.wrap (n - 1) = n - 1 := IntWalk.i64_in _ (by omega)
  have b3 : (((So.srt Tk).length : Int) != IntKind.i64.wrap (n - 1)) = true := by rw [hw4, So.srt_len]; simpa using hv
  ((repeat' (first
    | (show SQ _ _ _ _ _ _ _ _; first | apply sq_nil | (apply q_move; exact rfl; exact rfl) | (apply q_assign; exact rfl; exact rfl) | (apply q_fieldAddr; exact rfl; exact rfl; exact (ty rfl); exact rfl; exact rfl; exact rfl; exact rfl) | (apply q_lend; exact rfl; exact rfl; exact (ty rfl); exact rfl) | (apply q_lenl; exact rfl; exact rfl; exact (ty rfl); exact rfl) | (apply q_sub; exact rfl; exact rfl; exact rfl) | (apply q_neq; exact rfl; exact rfl; exact rfl) | (apply q_lss; exact rfl; exact rfl; exact rfl) | (apply q_ld1p; exact rfl; exact rfl; exact (ty rfl); exact rfl; exact rfl; exact (by first | rfl | assumption | ((try simp only [Nat.zero_add]); refine List.getElem?_set_self ?_; (try simp only [List.length_set]); assumption)); exact rfl))
    | (show AW _ _ _ _ _ _ _ _; first | refine aw_region ?_ | (refine aw_seqk ?_; intro K hK) | (apply aw_cond_t; exact rfl; exact (by assumption)) | (apply aw_cond_f; exact rfl; exact (by assumption)) | refine aw_ret ?_ | refine aw_exit ?_)
    | refine thn_n ?_
    | (refine hK _ _ _ ?_; clear hK K)
    | refine thn_e ?_
    | refine thn_r ?_
    | refine inb_same ?_
    | (clear hK K; refine hK _ _ _ ?_; clear hK K))); all_goals (repeat (clear hK K)))
  all_goals ((refine fin_r (fin_p (.r2 _ _ _ _ (.tmp _ _ rfl) (.tmp _ _ rfl)) ?_ rfl rfl rfl); rfl))
theorem specSpan_okR (n : Int) (ls : List Ln) (hn : ls.length ≤ 1048576) (h32 : ls.length ≤ 32) (h : bkB n ls = true) (hv : (((treK n ls).length : Int) = n - 1)) (k : Nat) : RO Try.prog 30 [.agg (bkL n ls)] k (.tup [.sl k 0 (treK n ls).length, .v (.int .i64 0)]) [(k, ⟨2, 1, true, (So.srt (treK n ls)).map inL⟩)] (k + 1) := by
  have b1 : (!bkB n ls) = false := by rw [h]; rfl
  obtain ⟨hN, hL⟩ := bkB_in h
  have hok := l25Ok_ro n ls hn
  have hPa := fun may hm => l25Parts_ro n ls may hN hn hm hL
  have hli : (ls.map lnL).length = ls.length := List.length_map _
  have hyl := ordK_len ls
  have hyi := fun i hi => ordK_in (ls := ls) (i := i) hi
  have hyn : (ordK ls).Nodup := (ordK_perm ls).nodup_iff.2 ((part0_up _).imp fun {a b} h e => by omega)
  have hord := fun t ht => amn_ord (ls := ls) (t := t) ht
  have hTd : spT n ls (ordK ls) ls.length = treK n ls := rfl
  have hs0 : So.srt [] = [] := by simp [So.srt]
  generalize treK n ls = Tk at *
  generalize ordK ls = ys at *
  refine RO.ofm (.tup [.sl 0 0 Tk.length, .v (.int .i64 0)]) ([(0, ⟨2, 1, true, (So.srt Tk).map inL⟩)]) 1 Try.func30 Try.ntmps30 rfl (goFn_of Try.func30 rfl (by kernel_rfl)) rfl rfl (by simp [renA, renL]) (by simp [shH, renB]) rfl ?_
  unfold bkL at hok hPa ⊢
  ((repeat' (first
    | (show SQ _ _ _ _ _ _ _ _; first | apply sq_nil | (apply q_assign; exact rfl; exact rfl) | (apply q_fieldAddr; exact rfl; exact rfl; exact (ty rfl); exact rfl; exact rfl; exact rfl; exact rfl) | (apply q_not; exact rfl; exact rfl) | (apply q_lend; exact rfl; exact rfl; exact (ty rfl); exact rfl) | (apply q_ld1p; exact rfl; exact rfl; exact (ty rfl); exact rfl; exact rfl; exact (by first | rfl | assumption | ((try simp only [Nat.zero_add]); refine List.getElem?_set_self ?_; (try simp only [List.length_set]); assumption)); exact rfl))
    | (show SQ _ _ _ _ _ _ _ _; (first | (apply q_box; exact rfl; exact rfl; exact rfl) | (apply q_mks; exact rfl; exact rfl; exact rfl; exact (ty rfl); exact rfl; exact (by first | omega | (simp; done) | (simp; omega)); exact (by first | omega | (simp; done) | (simp; omega)); exact (by first | omega | (simp; done) | (simp; omega)); exact (by first | omega | (simp; done) | (simp; omega)); exact rfl; exact rfl) | (apply q_build0; exact rfl; exact (ty rfl); exact rfl) | (apply q_callU; exact rfl; exact rfl; exact rfl; exact FzL.of rfl; exact hok _)); (try simp only [put, rowsOf, plR, List.all_cons, selE, ovr, setH, del, cellsA, splice, isV, List.nil_append, List.cons_append, List.map_cons, List.map_nil, List.length_cons, List.length_nil, List.set_cons_zero, List.set_cons_succ, List.take_succ_cons, List.take_zero, List.take_nil, List.drop_succ_cons, List.drop_zero, List.drop_nil, List.append_nil, List.all_cons, List.all_nil, Bool.and_true, Bool.true_and, Bool.and_false, Bool.false_and, Nat.reduceAdd, Nat.zero_add, Nat.add_zero, Nat.reduceEqDiff, if_true, if_false, reduceIte]))
    | (show AW _ _ _ _ _ _ _ _; first | refine aw_region ?_ | (refine aw_seqk ?_; intro K hK) | refine aw_block ?_ | (apply aw_cond_f; exact rfl; exact (by assumption)) | refine aw_skip ?_)
    | refine thn_n ?_
    | (refine hK _ _ _ ?_; clear hK K))); all_goals (repeat (clear hK K)))
  refine aw_loop (ρ := id) (ι := Nat) (fun t => ([(7, .v (.int .i64 t)), (6, .sl 3 0 (So.srt (spT n ls ys t)).length), (5, .sl 2 0 ls.length), (4, .sl 1 0 ls.length), (1, .ptr 0 0 0)],
      [(0, ⟨31, 2, false, [[.v (.int .i64 n), .dsl 4 (ls.map lnL)]]⟩), (1, ⟨4, 1, true, (mb ls.length (spT n ls ys t)).map boL⟩), (2, ⟨4, 1, true, (mb ls.length (ys.take t)).map boL⟩), (3, ⟨2, 1, true, (So.srt (spT n ls ys t)).map inL⟩)], 4))
    (fun t => t ≤ ls.length) (fun t => ls.length - t) 0 (Nat.zero_le _) ⟨⟨lk_i rfl rfl, lk_s rfl rfl (by (try dsimp only); rw [show spT n ls ys 0 = [] from rfl, hs0]; rfl) rfl, lk_s rfl rfl (by simp) rfl, lk_s rfl rfl (by simp) rfl, lk_r rfl rfl rfl, trivial⟩,
      ⟨⟨rfl, rfl, rfl⟩, lkb rfl rfl rfl (by (try dsimp only); rw [show spT n ls ys 0 = [] from rfl, mb_nil, List.map_replicate, hli]; rfl) rfl, lkb rfl rfl rfl (by (try dsimp only); rw [List.take_zero, mb_nil, List.map_replicate, hli]; rfl) rfl, lkb rfl rfl rfl (by (try dsimp only); rw [show spT n ls ys 0 = [] from rfl, hs0]; rfl) rfl, trivial⟩, by rfl, pin_0⟩ ?_
  intro t ht
  have hsl := spT_len n ls ys t
  have hm1 : ((mb ls.length (spT n ls ys t)).map boL).length = ls.length := by rw [List.length_map, mb_len]
  have hm2 : ((mb ls.length (ys.take t)).map boL).length = ls.length := by rw [List.length_map, mb_len]
  have hm3 : ((So.srt (spT n ls ys t)).map inL).length = (So.srt (spT n ls ys t)).length := List.length_map _
  by_cases c2 : t < ls.length
  · have b2 : decide ((t : Int) < ((ls.map lnL).length : Int)) = true := by rw [hli]; simpa using c2
    ((repeat' (first
    | (show SQ _ _ _ _ _ _ _ _; first | apply sq_nil | (apply q_move; exact rfl; exact rfl) | (apply q_assign; exact rfl; exact rfl) | (apply q_fieldAddr; exact rfl; exact rfl; exact (ty rfl); exact rfl; exact rfl; exact rfl; exact rfl) | (apply q_lend; exact rfl; exact rfl; exact (ty rfl); exact rfl) | (apply q_lss; exact rfl; exact rfl; exact rfl) | (apply q_ld1p; exact rfl; exact rfl; exact (ty rfl); exact rfl; exact rfl; exact (by first | rfl | assumption | ((try simp only [Nat.zero_add]); refine List.getElem?_set_self ?_; (try simp only [List.length_set]); assumption)); exact rfl))
    | (show AW _ _ _ _ _ _ _ _; first | refine aw_region ?_ | (refine aw_seqk ?_; intro K hK) | refine aw_block ?_ | (apply aw_cond_t; exact rfl; exact (by assumption)) | refine aw_skip ?_)
    | refine thn_n ?_
    | (refine hK _ _ _ ?_; clear hK K))); all_goals (repeat (clear hK K)))
    refine aw_loop (ρ := id) (ι := Nat) (fun i => ([(9, .v (.int .i64 i)), (8, .v (.int .i64 (amn ls (ys.take t) i))), (7, .v (.int .i64 t)), (6, .sl 3 0 (So.srt (spT n ls ys t)).length), (5, .sl 2 0 ls.length), (4, .sl 1 0 ls.length), (1, .ptr 0 0 0)],
      [(0, ⟨31, 2, false, [[.v (.int .i64 n), .dsl 4 (ls.map lnL)]]⟩), (1, ⟨4, 1, true, (mb ls.length (spT n ls ys t)).map boL⟩), (2, ⟨4, 1, true, (mb ls.length (ys.take t)).map boL⟩), (3, ⟨2, 1, true, (So.srt (spT n ls ys t)).map inL⟩)], 4))
      (fun i => i ≤ ls.length) (fun i => ls.length - i) 0 (Nat.zero_le _) ⟨by (repeat (refine ⟨by first | exact lk_i rfl rfl | exact lk_r rfl rfl rfl | exact lk_s rfl rfl rfl rfl, ?_⟩)); exact trivial, by (repeat (refine ⟨by first | exact ⟨rfl, rfl, rfl⟩, ?_⟩)); exact trivial, by rfl, by exact pin_0⟩ ?_
    intro i hi
    have hsp := amn_spec ls (ys.take t) i
    by_cases c3 : i < ls.length
    · have b3 : decide ((i : Int) < ((ls.map lnL).length : Int)) = true := by rw [hli]; simpa using c3
      have hbo := bo_get (ix := ys.take t) c3
      have hw : IntKind.i64.wrap ((i : Int) + 1) = ((i + 1 : Nat) : Int) := by rw [IntWalk.i64_in _ (by omega)]; omega
      have hst : amn ls (ys.take t) (i + 1) = if (!((ys.take t).any fun y => y == (i : Int)) && (decide (amn ls (ys.take t) i < 0) || decide (kO ls (i : Int) < kO ls (amn ls (ys.take t) i)))) = true then (i : Int) else amn ls (ys.take t) i := rfl
      have hri : (ls.map lnL)[((i : Int)).toNat]? = some (lnL ls[i]) := by simp [c3]
      have hki : kO ls (i : Int) = ls[i].o := by simp [kO, List.getD, c3]
      rw [hki] at hst
      rw [lnL_eq] at hri
      generalize hNe : amn ls (ys.take t) (i + 1) = Ne at *
      generalize amn ls (ys.take t) i = A at *
      cases hsn : ((ys.take t).any fun y => y == (i : Int)) with
      | true =>
        rw [hsn] at hbo hst
        have b4 : (!true) = false := rfl
        rw [if_neg (by simp)] at hst
        ((repeat' (first
    | (show SQ _ _ _ _ _ _ _ _; first | apply sq_nil | (apply q_move; exact rfl; exact rfl) | (apply q_assign; exact rfl; exact rfl) | (apply q_fieldAddr; exact rfl; exact rfl; exact (ty rfl); exact rfl; exact rfl; exact rfl; exact rfl) | (apply q_lend; exact rfl; exact rfl; exact (ty rfl); exact rfl) | (apply q_add; exact rfl; exact rfl; exact rfl) | (apply q_lss; exact rfl; exact rfl; exact rfl) | (apply q_ld1p; exact rfl; exact rfl; exact (ty rfl); exact rfl; exact rfl; exact (by first | rfl | assumption | ((try simp only [Nat.zero_add]); refine List.getElem?_set_self ?_; (try simp only [List.length_set]); assumption)); exact rfl))
    | (show DE _ _ _ _ _ _ _ _ _ _ _ _; first | (apply e_move; exact rfl; exact rfl; exact rfl) | (apply e_pick_f; exact rfl; exact rfl; exact rfl; exact (by first | assumption | exact rfl); exact rfl) | (apply e_not; exact rfl; exact rfl; exact rfl) | (apply e_ixl; exact rfl; exact rfl; exact rfl; exact (ty rfl); exact rfl; exact rfl; exact rfl; exact (by first | omega | (simp; done) | (simp; omega)); exact (by first | omega | (simp; done) | (simp; omega)); exact rfl) | (apply e_ld1p; exact rfl; exact rfl; exact (ty rfl); exact rfl; exact rfl; exact (by first | rfl | assumption | ((try simp only [Nat.zero_add]); refine List.getElem?_set_self ?_; (try simp only [List.length_set]); assumption)); exact rfl; exact rfl) | (apply e_s; exact rfl; exact rfl; exact rfl; exact (by assumption); exact rfl) | (apply e_sU; exact rfl; exact rfl; exact rfl; exact rfl; exact rfl))
    | (show DE _ _ _ _ _ _ _ _ _ _ _ _; (first | (apply dr_nil; exact trivial)); (try simp only [put, rowsOf, plR, List.all_cons, selE, ovr, setH, del, cellsA, splice, isV, List.nil_append, List.cons_append, List.map_cons, List.map_nil, List.length_cons, List.length_nil, List.set_cons_zero, List.set_cons_succ, List.take_succ_cons, List.take_zero, List.take_nil, List.drop_succ_cons, List.drop_zero, List.drop_nil, List.append_nil, List.all_cons, List.all_nil, Bool.and_true, Bool.true_and, Bool.and_false, Bool.false_and, Nat.reduceAdd, Nat.zero_add, Nat.add_zero, Nat.reduceEqDiff, if_true, if_false, reduceIte]))
    | (show AW _ _ _ _ _ _ _ _; first | refine aw_region ?_ | (refine aw_seqk ?_; intro K hK) | refine aw_block ?_ | (apply aw_cond_f; exact rfl; exact rfl) | (apply aw_cond_t; exact rfl; exact (by assumption)) | refine aw_skip ?_ | refine aw_drawE (id := 13) [0, 0, 3, 7, 15, 31, 63, 127, 255, 511, 1023, 511, 4095, 8191, 16383, 511, 33279, 511, 229887, 492031, 1016319, 2097151, 4194303, 8388607] [0, 0, 1, 1, 0, 0, 0, 0, 0, 0, 1, 0, 0, 0, 1, 0, 1, 0, 0, 0, 1, 0, 0, 0] mixed (by kernel_rfl) ?_)
    | refine thn_n ?_
    | (refine hK _ _ _ ?_; clear hK K)
    | refine inb_n ?_)); all_goals (repeat (clear hK K)))
        all_goals (refine ⟨i + 1, id, c3, by omega, ?_⟩; (try dsimp only); rw [hNe, hst, ← hw]; exact ⟨by (repeat (refine ⟨by first | exact lk_i rfl rfl | exact lk_r rfl rfl rfl | exact lk_s rfl rfl rfl rfl, ?_⟩)); exact trivial, by (repeat (refine ⟨by first | exact ⟨rfl, rfl, rfl⟩, ?_⟩)); exact trivial, by rfl, by exact pin_0⟩)
      | false =>
        rw [hsn] at hbo hst
        have b4 : (!false) = true := rfl
        by_cases c4 : A < 0
        · have b5 : decide (A < 0) = true := by simpa using c4
          rw [if_pos (by simp [c4])] at hst
          ((repeat' (first
    | (show SQ _ _ _ _ _ _ _ _; first | apply sq_nil | (apply q_move; exact rfl; exact rfl) | (apply q_assign; exact rfl; exact rfl) | (apply q_fieldAddr; exact rfl; exact rfl; exact (ty rfl); exact rfl; exact rfl; exact rfl; exact rfl) | (apply q_lend; exact rfl; exact rfl; exact (ty rfl); exact rfl) | (apply q_add; exact rfl; exact rfl; exact rfl) | (apply q_lss; exact rfl; exact rfl; exact rfl) | (apply q_ld1p; exact rfl; exact rfl; exact (ty rfl); exact rfl; exact rfl; exact (by first | rfl | assumption | ((try simp only [Nat.zero_add]); refine List.getElem?_set_self ?_; (try simp only [List.length_set]); assumption)); exact rfl))
    | (show DE _ _ _ _ _ _ _ _ _ _ _ _; first | (apply e_move; exact rfl; exact rfl; exact rfl) | (apply e_pick_t; exact rfl; exact rfl; exact rfl; exact (by first | assumption | exact rfl); exact rfl) | (apply e_not; exact rfl; exact rfl; exact rfl) | (apply e_lss; exact rfl; exact rfl; exact rfl; exact rfl) | (apply e_ixl; exact rfl; exact rfl; exact rfl; exact (ty rfl); exact rfl; exact rfl; exact rfl; exact (by first | omega | (simp; done) | (simp; omega)); exact (by first | omega | (simp; done) | (simp; omega)); exact rfl) | (apply e_ld1p; exact rfl; exact rfl; exact (ty rfl); exact rfl; exact rfl; exact (by first | rfl | assumption | ((try simp only [Nat.zero_add]); refine List.getElem?_set_self ?_; (try simp only [List.length_set]); assumption)); exact rfl; exact rfl) | (apply e_g; exact rfl; exact rfl; exact rfl; exact (by assumption)) | (apply e_s; exact rfl; exact rfl; exact rfl; exact (by assumption); exact rfl))
    | (show DE _ _ _ _ _ _ _ _ _ _ _ _; (first | (apply dr_nil; exact trivial)); (try simp only [put, rowsOf, plR, List.all_cons, selE, ovr, setH, del, cellsA, splice, isV, List.nil_append, List.cons_append, List.map_cons, List.map_nil, List.length_cons, List.length_nil, List.set_cons_zero, List.set_cons_succ, List.take_succ_cons, List.take_zero, List.take_nil, List.drop_succ_cons, List.drop_zero, List.drop_nil, List.append_nil, List.all_cons, List.all_nil, Bool.and_true, Bool.true_and, Bool.and_false, Bool.false_and, Nat.reduceAdd, Nat.zero_add, Nat.add_zero, Nat.reduceEqDiff, if_true, if_false, reduceIte]))
    | (show AW _ _ _ _ _ _ _ _; first | refine aw_region ?_ | (refine aw_seqk ?_; intro K hK) | refine aw_block ?_ | (apply aw_cond_t; exact rfl; exact rfl) | (apply aw_cond_t; exact rfl; exact (by assumption)) | refine aw_skip ?_ | refine aw_drawE (id := 13) [0, 0, 3, 7, 15, 31, 63, 127, 255, 511, 1023, 511, 4095, 8191, 16383, 511, 33279, 511, 229887, 492031, 1016319, 2097151, 4194303, 8388607] [0, 0, 1, 1, 0, 0, 0, 0, 0, 0, 1, 0, 0, 0, 1, 0, 1, 0, 0, 0, 1, 0, 0, 0] mixed (by kernel_rfl) ?_)
    | refine thn_n ?_
    | (refine hK _ _ _ ?_; clear hK K)
    | refine inb_n ?_)); all_goals (repeat (clear hK K)))
          all_goals (refine ⟨i + 1, id, c3, by omega, ?_⟩; (try dsimp only); rw [hNe, hst, ← hw]; exact ⟨by (repeat (refine ⟨by first | exact lk_i rfl rfl | exact lk_r rfl rfl rfl | exact lk_s rfl rfl rfl rfl, ?_⟩)); exact trivial, by (repeat (refine ⟨by first | exact ⟨rfl, rfl, rfl⟩, ?_⟩)); exact trivial, by rfl, by exact pin_0⟩)
        · have b5 : decide (A < 0) = false := by simpa using c4
          obtain ⟨a, rfl⟩ : ∃ a : Nat, A = a := ⟨A.toNat, by omega⟩
          have hai : a < ls.length := by rcases hsp with ⟨h1, _⟩ | ⟨_, h2, _⟩ <;> omega
          have hra : (ls.map lnL)[((a : Int)).toNat]? = some (lnL ls[a]) := by simp [hai]
          have hka : kO ls (a : Int) = ls[a].o := by simp [kO, List.getD, hai]
          rw [lnL_eq] at hra
          rw [hka] at hst
          by_cases c5 : ls[i].o < ls[a].o
          · have b6 : decide (ls[i].o < ls[a].o) = true := by simpa using c5
            rw [if_pos (by simp [c5])] at hst
            ((repeat' (first
    | (show SQ _ _ _ _ _ _ _ _; first | apply sq_nil | (apply q_move; exact rfl; exact rfl) | (apply q_assign; exact rfl; exact rfl) | (apply q_fieldAddr; exact rfl; exact rfl; exact (ty rfl); exact rfl; exact rfl; exact rfl; exact rfl) | (apply q_lend; exact rfl; exact rfl; exact (ty rfl); exact rfl) | (apply q_add; exact rfl; exact rfl; exact rfl) | (apply q_lss; exact rfl; exact rfl; exact rfl) | (apply q_ld1p; exact rfl; exact rfl; exact (ty rfl); exact rfl; exact rfl; exact (by first | rfl | assumption | ((try simp only [Nat.zero_add]); refine List.getElem?_set_self ?_; (try simp only [List.length_set]); assumption)); exact rfl))
    | (show DE _ _ _ _ _ _ _ _ _ _ _ _; first | (apply e_move; exact rfl; exact rfl; exact rfl) | (apply e_pick_t; exact rfl; exact rfl; exact rfl; exact (by first | assumption | exact rfl); exact rfl) | (apply e_pick_f; exact rfl; exact rfl; exact rfl; exact (by first | assumption | exact rfl); exact rfl) | (apply e_fieldAddr; exact rfl; exact rfl; exact (ty rfl); exact rfl; exact rfl; exact rfl; exact rfl; exact rfl) | (apply e_not; exact rfl; exact rfl; exact rfl) | (apply e_lss; exact rfl; exact rfl; exact rfl; exact rfl) | (apply e_ixd; exact rfl; exact rfl; exact rfl; exact (ty rfl); exact rfl; exact (by first | omega | (simp; done) | (simp; omega)); exact (by first | omega | (simp; done) | (simp; omega)); exact (by first | rfl | assumption); exact rfl) | (apply e_ixl; exact rfl; exact rfl; exact rfl; exact (ty rfl); exact rfl; exact rfl; exact rfl; exact (by first | omega | (simp; done) | (simp; omega)); exact (by first | omega | (simp; done) | (simp; omega)); exact rfl) | (apply e_ld1d; exact rfl; exact rfl; exact (ty rfl); exact rfl; exact rfl; exact rfl) | (apply e_ld1p; exact rfl; exact rfl; exact (ty rfl); exact rfl; exact rfl; exact (by first | rfl | assumption | ((try simp only [Nat.zero_add]); refine List.getElem?_set_self ?_; (try simp only [List.length_set]); assumption)); exact rfl; exact rfl) | (apply e_g; exact rfl; exact rfl; exact rfl; exact (by assumption)))
    | (show DE _ _ _ _ _ _ _ _ _ _ _ _; (first | (apply dr_nil; exact trivial)); (try simp only [put, rowsOf, plR, List.all_cons, selE, ovr, setH, del, cellsA, splice, isV, List.nil_append, List.cons_append, List.map_cons, List.map_nil, List.length_cons, List.length_nil, List.set_cons_zero, List.set_cons_succ, List.take_succ_cons, List.take_zero, List.take_nil, List.drop_succ_cons, List.drop_zero, List.drop_nil, List.append_nil, List.all_cons, List.all_nil, Bool.and_true, Bool.true_and, Bool.and_false, Bool.false_and, Nat.reduceAdd, Nat.zero_add, Nat.add_zero, Nat.reduceEqDiff, if_true, if_false, reduceIte]))
    | (show AW _ _ _ _ _ _ _ _; first | refine aw_region ?_ | (refine aw_seqk ?_; intro K hK) | refine aw_block ?_ | (apply aw_cond_t; exact rfl; exact (by assumption)) | refine aw_skip ?_ | refine aw_drawE (id := 13) [0, 0, 3, 7, 15, 31, 63, 127, 255, 511, 1023, 511, 4095, 8191, 16383, 511, 33279, 511, 229887, 492031, 1016319, 2097151, 4194303, 8388607] [0, 0, 1, 1, 0, 0, 0, 0, 0, 0, 1, 0, 0, 0, 1, 0, 1, 0, 0, 0, 1, 0, 0, 0] mixed (by kernel_rfl) ?_)
    | refine thn_n ?_
    | (refine hK _ _ _ ?_; clear hK K)
    | refine inb_n ?_)); all_goals (repeat (clear hK K)))
            all_goals (refine ⟨i + 1, id, c3, by omega, ?_⟩; (try dsimp only); rw [hNe, hst, ← hw]; exact ⟨by (repeat (refine ⟨by first | exact lk_i rfl rfl | exact lk_r rfl rfl rfl | exact lk_s rfl rfl rfl rfl, ?_⟩)); exact trivial, by (repeat (refine ⟨by first | exact ⟨rfl, rfl, rfl⟩, ?_⟩)); exact trivial, by rfl, by exact pin_0⟩)
          · have b6 : decide (ls[i].o < ls[a].o) = false := by simpa using c5
            rw [if_neg (by first | (simp [c5]; done) | (simp [c5]; omega))] at hst
            ((repeat' (first
    | (show SQ _ _ _ _ _ _ _ _; first | apply sq_nil | (apply q_move; exact rfl; exact rfl) | (apply q_assign; exact rfl; exact rfl) | (apply q_fieldAddr; exact rfl; exact rfl; exact (ty rfl); exact rfl; exact rfl; exact rfl; exact rfl) | (apply q_lend; exact rfl; exact rfl; exact (ty rfl); exact rfl) | (apply q_add; exact rfl; exact rfl; exact rfl) | (apply q_lss; exact rfl; exact rfl; exact rfl) | (apply q_ld1p; exact rfl; exact rfl; exact (ty rfl); exact rfl; exact rfl; exact (by first | rfl | assumption | ((try simp only [Nat.zero_add]); refine List.getElem?_set_self ?_; (try simp only [List.length_set]); assumption)); exact rfl))
    | (show DE _ _ _ _ _ _ _ _ _ _ _ _; first | (apply e_move; exact rfl; exact rfl; exact rfl) | (apply e_pick_t; exact rfl; exact rfl; exact rfl; exact (by first | assumption | exact rfl); exact rfl) | (apply e_pick_f; exact rfl; exact rfl; exact rfl; exact (by first | assumption | exact rfl); exact rfl) | (apply e_fieldAddr; exact rfl; exact rfl; exact (ty rfl); exact rfl; exact rfl; exact rfl; exact rfl; exact rfl) | (apply e_not; exact rfl; exact rfl; exact rfl) | (apply e_lss; exact rfl; exact rfl; exact rfl; exact rfl) | (apply e_ixd; exact rfl; exact rfl; exact rfl; exact (ty rfl); exact rfl; exact (by first | omega | (simp; done) | (simp; omega)); exact (by first | omega | (simp; done) | (simp; omega)); exact (by first | rfl | assumption); exact rfl) | (apply e_ixl; exact rfl; exact rfl; exact rfl; exact (ty rfl); exact rfl; exact rfl; exact rfl; exact (by first | omega | (simp; done) | (simp; omega)); exact (by first | omega | (simp; done) | (simp; omega)); exact rfl) | (apply e_ld1d; exact rfl; exact rfl; exact (ty rfl); exact rfl; exact rfl; exact rfl) | (apply e_ld1p; exact rfl; exact rfl; exact (ty rfl); exact rfl; exact rfl; exact (by first | rfl | assumption | ((try simp only [Nat.zero_add]); refine List.getElem?_set_self ?_; (try simp only [List.length_set]); assumption)); exact rfl; exact rfl) | (apply e_g; exact rfl; exact rfl; exact rfl; exact (by assumption)))
    | (show DE _ _ _ _ _ _ _ _ _ _ _ _; (first | (apply dr_nil; exact trivial)); (try simp only [put, rowsOf, plR, List.all_cons, selE, ovr, setH, del, cellsA, splice, isV, List.nil_append, List.cons_append, List.map_cons, List.map_nil, List.length_cons, List.length_nil, List.set_cons_zero, List.set_cons_succ, List.take_succ_cons, List.take_zero, List.take_nil, List.drop_succ_cons, List.drop_zero, List.drop_nil, List.append_nil, List.all_cons, List.all_nil, Bool.and_true, Bool.true_and, Bool.and_false, Bool.false_and, Nat.reduceAdd, Nat.zero_add, Nat.add_zero, Nat.reduceEqDiff, if_true, if_false, reduceIte]))
    | (show AW _ _ _ _ _ _ _ _; first | refine aw_region ?_ | (refine aw_seqk ?_; intro K hK) | refine aw_block ?_ | (apply aw_cond_t; exact rfl; exact (by assumption)) | (apply aw_cond_f; exact rfl; exact (by assumption)) | refine aw_skip ?_ | refine aw_drawE (id := 13) [0, 0, 3, 7, 15, 31, 63, 127, 255, 511, 1023, 511, 4095, 8191, 16383, 511, 33279, 511, 229887, 492031, 1016319, 2097151, 4194303, 8388607] [0, 0, 1, 1, 0, 0, 0, 0, 0, 0, 1, 0, 0, 0, 1, 0, 1, 0, 0, 0, 1, 0, 0, 0] mixed (by kernel_rfl) ?_)
    | refine thn_n ?_
    | (refine hK _ _ _ ?_; clear hK K)
    | refine inb_n ?_)); all_goals (repeat (clear hK K)))
            all_goals (refine ⟨i + 1, id, c3, by omega, ?_⟩; (try dsimp only); rw [hNe, hst, ← hw]; exact ⟨by (repeat (refine ⟨by first | exact lk_i rfl rfl | exact lk_r rfl rfl rfl | exact lk_s rfl rfl rfl rfl, ?_⟩)); exact trivial, by (repeat (refine ⟨by first | exact ⟨rfl, rfl, rfl⟩, ?_⟩)); exact trivial, by rfl, by exact pin_0⟩)
    · have b3 : decide ((i : Int) < ((ls.map lnL).length : Int)) = false := by rw [hli]; simpa using c3
      obtain rfl : i = ls.length := by omega
      rw [hord t c2]
      have hty : t < ys.length := by omega
      have hyx : ys.getD t 0 = ys[t] := by simp [List.getD, hty]
      obtain ⟨y0, y1⟩ := hyi t hty
      obtain ⟨a, ha⟩ : ∃ a : Nat, ys.getD t 0 = (a : Int) := ⟨(ys.getD t 0).toNat, by omega⟩
      rw [ha]
      have hal : a < ls.length := by omega
      have hra : (ls.map lnL)[((a : Int)).toNat]? = some (lnL ls[a]) := by simp [hal]
      rw [lnL_eq] at hra
      have hlt : lnAt ls (a : Int) = ls[a] := by simp [lnAt, List.getD, hal]
      obtain ⟨a0, a1, d0, d1⟩ := hL ls[a] (List.getElem_mem hal)
      have hbs := bo_get (ix := ys.take t) hal
      have hbm := bo_get (ix := spT n ls ys t) hal
      have hss : ((mb ls.length (ys.take t)).map boL).set ((a : Int)).toNat [.v (.bool true)] = (mb ls.length (ys.take (t + 1))).map boL := by
        rw [show ([AV.v (.bool true)]) = boL true from rfl, ← List.map_set, Int.toNat_natCast, mb_set hal, List.take_succ_eq_append_getElem hty, ← hyx, ha]
      have hsm : ((mb ls.length (spT n ls ys t)).map boL).set ((a : Int)).toNat [.v (.bool true)] = (mb ls.length (spT n ls ys t ++ [(a : Int)])).map boL := by
        rw [show ([AV.v (.bool true)]) = boL true from rfl, ← List.map_set, Int.toNat_natCast, mb_set hal]
      have hss0 := hss
      have hsm0 := hsm
      rw [← Nat.zero_add ((a : Int)).toNat] at hss0 hsm0
      obtain ⟨hnd, hsub⟩ := spT_nodup (n := n) (ls := ls) hyn t (by omega)
      have hmem := spT_mem (n := n) (ls := ls) (ys := ys) (i := t) (by omega)
      have hix : ∀ x ∈ spT n ls ys t, 0 ≤ x ∧ x < ls.length := fun x hx => by
        obtain ⟨j, hj, rfl⟩ := List.getElem_of_mem (hmem x hx); exact hyi j hj
      have hpr := part_reach hL hix ⟨a0, a1⟩ ⟨d0, d1⟩
      have hP := hPa (mb ls.length (spT n ls ys t)) (mb_len _ _)
      have hpl := parts_len n ls (mb ls.length (spT n ls ys t)) ls.length
      have hsu : spT n ls ys (t + 1) = if ((reachV n ls (spT n ls ys t) (lnAt ls (ys.getD t 0)).a).any fun y => y == (lnAt ls (ys.getD t 0)).b) = true then spT n ls ys t else spT n ls ys t ++ [ys.getD t 0] := rfl
      rw [ha, hlt] at hsu
      have hnd2 : (spT n ls ys t ++ [(a : Int)]).Nodup := by
        refine List.nodup_append.2 ⟨hnd, by simp, fun x hx y hy e => ?_⟩
        rw [List.mem_singleton] at hy
        have hm := hsub x hx
        rw [e, hy, ← ha, hyx] at hm
        obtain ⟨j, hj, e2⟩ := List.getElem_of_mem hm
        rw [List.length_take] at hj
        rw [List.getElem_take] at e2
        exact (List.pairwise_iff_getElem.1 hyn j t (by omega) (by omega) (by omega)) e2
      have hpu := put_srt hnd2
      have hPu := l00Put_ro (So.srt (spT n ls ys t)) (a : Int) (by rw [So.srt_len]; omega)
      rw [hpu] at hPu
      have hw : IntKind.i64.wrap ((t : Int) + 1) = ((t + 1 : Nat) : Int) := by rw [IntWalk.i64_in _ (by omega)]; omega
      generalize hNx : spT n ls ys (t + 1) = Nx at *
      generalize spT n ls ys t = ix at *
      generalize parts n ls (mb ls.length ix) ls.length = p at *
      generalize ((reachV n ls ix ls[a].a).any fun y => y == ls[a].b) = rc at *
      have hpm : (p.map inL).length = n.toNat := by rw [List.length_map, hpl]
      have a2 : ls[a].a.toNat < p.length := by omega
      have d2 : ls[a].b.toNat < p.length := by omega
      have hpa : (p.map inL)[0 + ls[a].a.toNat]? = some (inL (p.getD ls[a].a.toNat 0)) := by simp [List.getD, a2]
      have hpb : (p.map inL)[0 + ls[a].b.toNat]? = some (inL (p.getD ls[a].b.toNat 0)) := by simp [List.getD, d2]
      rw [inL_eq] at hpa hpb
      ((repeat' (first
    | (show SQ _ _ _ _ _ _ _ _; first | apply sq_nil | (apply q_move; exact rfl; exact rfl) | (apply q_assign; exact rfl; exact rfl) | (apply q_fieldAddr; exact rfl; exact rfl; exact (ty rfl); exact rfl; exact rfl; exact rfl; exact rfl) | (apply q_lend; exact rfl; exact rfl; exact (ty rfl); exact rfl) | (apply q_add; exact rfl; exact rfl; exact rfl) | (apply q_lss; exact rfl; exact rfl; exact rfl) | (apply q_ixl; exact rfl; exact rfl; exact rfl; exact (ty rfl); exact rfl; exact rfl; exact rfl; exact (by first | omega | (simp; done) | (simp; omega)); exact (by first | omega | (simp; done) | (simp; omega))) | (apply q_ld1p; exact rfl; exact rfl; exact (ty rfl); exact rfl; exact rfl; exact (by first | rfl | assumption | ((try simp only [Nat.zero_add]); refine List.getElem?_set_self ?_; (try simp only [List.length_set]); assumption)); exact rfl))
    | (show SQ _ _ _ _ _ _ _ _; (first | (apply q_store; exact rfl; exact rfl; exact (ty rfl); exact rfl; exact (by first | rfl | assumption | ((try simp only [Nat.zero_add]); refine List.getElem?_set_self ?_; (try simp only [List.length_set]); assumption)); exact rfl; exact rfl; exact rfl) | (apply q_callU; exact rfl; exact rfl; exact rfl; rotate_left; exact hP _; rotate_right; focus ((repeat' (first | exact FzL.nil | exact (by assumption : FzC _) _ | refine FzL.cons ?_ ?_ | exact Fz.of rfl | exact Fz.nil | exact Fz.emp | (apply Fz.fnC; assumption) | (apply Fz.sl2; exact rfl; exact (by first | omega | (simp; done) | (simp; omega)); first | exact rfl | exact dt_full (by first | omega | (simp; done) | (simp; omega)) | assumption) | apply Fz.agg | (apply Fz.ptrL; exact rfl; first | exact rfl | assumption) | apply Fz.fnL)); done)) | (apply q_callU; exact rfl; exact rfl; exact rfl; rotate_left; exact hPu _; rotate_right; focus ((repeat' (first | exact FzL.nil | exact (by assumption : FzC _) _ | refine FzL.cons ?_ ?_ | exact Fz.of rfl | exact Fz.nil | exact Fz.emp | (apply Fz.fnC; assumption) | (apply Fz.sl2; exact rfl; exact (by first | omega | (simp; done) | (simp; omega)); first | exact rfl | exact dt_full (by first | omega | (simp; done) | (simp; omega)) | assumption) | apply Fz.agg | (apply Fz.ptrL; exact rfl; first | exact rfl | assumption) | apply Fz.fnL)); done))); (try simp only [put, rowsOf, plR, List.all_cons, selE, ovr, setH, del, cellsA, splice, isV, List.nil_append, List.cons_append, List.map_cons, List.map_nil, List.length_cons, List.length_nil, List.set_cons_zero, List.set_cons_succ, List.take_succ_cons, List.take_zero, List.take_nil, List.drop_succ_cons, List.drop_zero, List.drop_nil, List.append_nil, List.all_cons, List.all_nil, Bool.and_true, Bool.true_and, Bool.and_false, Bool.false_and, Nat.reduceAdd, Nat.zero_add, Nat.add_zero, Nat.reduceEqDiff, if_true, if_false, reduceIte]))
    | (show DE _ _ _ _ _ _ _ _ _ _ _ _; first | (apply e_move; exact rfl; exact rfl; exact rfl) | (apply e_fieldAddr; exact rfl; exact rfl; exact (ty rfl); exact rfl; exact rfl; exact rfl; exact rfl; exact rfl) | (apply e_neq; exact rfl; exact rfl; exact rfl; exact rfl) | (apply e_ixd; exact rfl; exact rfl; exact rfl; exact (ty rfl); exact rfl; exact (by first | omega | (simp; done) | (simp; omega)); exact (by first | omega | (simp; done) | (simp; omega)); exact (by first | rfl | assumption); exact rfl) | (apply e_ixl; exact rfl; exact rfl; exact rfl; exact (ty rfl); exact rfl; exact rfl; exact rfl; exact (by first | omega | (simp; done) | (simp; omega)); exact (by first | omega | (simp; done) | (simp; omega)); exact rfl) | (apply e_ld1d; exact rfl; exact rfl; exact (ty rfl); exact rfl; exact rfl; exact rfl) | (apply e_ld1p; exact rfl; exact rfl; exact (ty rfl); exact rfl; exact rfl; exact (by first | rfl | assumption | ((try simp only [Nat.zero_add]); refine List.getElem?_set_self ?_; (try simp only [List.length_set]); assumption)); exact rfl; exact rfl))
    | (show DE _ _ _ _ _ _ _ _ _ _ _ _; (first | (apply dr_nil; exact trivial)); (try simp only [put, rowsOf, plR, List.all_cons, selE, ovr, setH, del, cellsA, splice, isV, List.nil_append, List.cons_append, List.map_cons, List.map_nil, List.length_cons, List.length_nil, List.set_cons_zero, List.set_cons_succ, List.take_succ_cons, List.take_zero, List.take_nil, List.drop_succ_cons, List.drop_zero, List.drop_nil, List.append_nil, List.all_cons, List.all_nil, Bool.and_true, Bool.true_and, Bool.and_false, Bool.false_and, Nat.reduceAdd, Nat.zero_add, Nat.add_zero, Nat.reduceEqDiff, if_true, if_false, reduceIte]))
    | (show AW _ _ _ _ _ _ _ _; first | refine aw_region ?_ | (refine aw_seqk ?_; intro K hK) | (apply aw_cond_f; exact rfl; exact (by assumption)) | refine aw_exit ?_ | refine aw_skip ?_ | refine aw_drawE (id := 17) [0, 0, 2, 0, 14, 30, 62, 127, 255, 0, 0, 1024, 0, 7168, 15360, 31744, 65024, 130560, 262143] [0, 0, 1, 0, 0, 0, 1, 1, 1, 0, 0, 1, 0, 0, 0, 1, 1, 1, 0] mixed (by kernel_rfl) ?_ | (apply aw_ite; exact rfl; all_goals intro h))
    | refine thn_n ?_
    | (refine hK _ _ _ ?_; clear hK K)
    | refine thn_e ?_
    | refine inb_same ?_
    | refine inb_n ?_
    | (simp only [hss, hss0, hsm, hsm0])
    | (clear hK K; refine hK _ _ _ ?_; clear hK K))); all_goals (repeat (clear hK K)))
      · have hb : rc = false := by have h := hpr.symm.trans ‹_›; rwa [Bool.not_eq_true'] at h
        rw [if_neg (by rw [hb]; simp)] at hsu
        refine ⟨t + 1, fun j => [0, 1, 2, 5].getD j 0, c2, by omega, ?_⟩
        (try dsimp only); rw [hNx, hsu, ← hw]
        exact ⟨by (repeat (refine ⟨by first | exact lk_i rfl rfl | exact lk_r rfl rfl rfl | exact lk_s rfl rfl rfl rfl, ?_⟩)); exact trivial, by (repeat (refine ⟨by first | exact ⟨rfl, rfl, rfl⟩, ?_⟩)); exact trivial, by rfl, by exact pin_0⟩
      · have hb : rc = true := by have h := hpr.symm.trans ‹_›; rwa [Bool.not_eq_false'] at h
        rw [if_pos hb] at hsu
        refine ⟨t + 1, id, c2, by omega, ?_⟩
        (try dsimp only); rw [hNx, hsu, ← hw]
        exact ⟨by (repeat (refine ⟨by first | exact lk_i rfl rfl | exact lk_r rfl rfl rfl | exact lk_s rfl rfl rfl rfl, ?_⟩)); exact trivial, by (repeat (refine ⟨by first | exact ⟨rfl, rfl, rfl⟩, ?_⟩)); exact trivial, by rfl, by exact pin_0⟩
  have b2 : decide ((t : Int) < ((ls.map lnL).length : Int)) = false := by rw [hli]; simpa using c2
  obtain rfl : t = ls.length := by omega
  rw [hTd] at hsl hm1 hm3 ⊢
  have hw4 : IntKind.i64.wrap (n - 1) = n - 1 := IntWalk.i64_in _ (by omega)
  have b3 : (((So.srt Tk).length : Int) != IntKind.i64.wrap (n - 1)) = false := by rw [hw4, So.srt_len]; simpa using hv
  ((repeat' (first
    | (show SQ _ _ _ _ _ _ _ _; first | apply sq_nil | (apply q_move; exact rfl; exact rfl) | (apply q_assign; exact rfl; exact rfl) | (apply q_fieldAddr; exact rfl; exact rfl; exact (ty rfl); exact rfl; exact rfl; exact rfl; exact rfl) | (apply q_lend; exact rfl; exact rfl; exact (ty rfl); exact rfl) | (apply q_lenl; exact rfl; exact rfl; exact (ty rfl); exact rfl) | (apply q_sub; exact rfl; exact rfl; exact rfl) | (apply q_neq; exact rfl; exact rfl; exact rfl) | (apply q_lss; exact rfl; exact rfl; exact rfl) | (apply q_ld1p; exact rfl; exact rfl; exact (ty rfl); exact rfl; exact rfl; exact (by first | rfl | assumption | ((try simp only [Nat.zero_add]); refine List.getElem?_set_self ?_; (try simp only [List.length_set]); assumption)); exact rfl))
    | (show AW _ _ _ _ _ _ _ _; first | refine aw_region ?_ | (refine aw_seqk ?_; intro K hK) | (apply aw_cond_f; exact rfl; exact (by assumption)) | refine aw_ret ?_ | refine aw_exit ?_ | refine aw_skip ?_)
    | refine thn_n ?_
    | (refine hK _ _ _ ?_; clear hK K)
    | refine thn_e ?_
    | refine inb_same ?_
    | (clear hK K; refine hK _ _ _ ?_; clear hK K))); all_goals (repeat (clear hK K)))
  all_goals (exact fin_r (fin_m2 rfl rfl rfl _ _ (So.srt_len _) rfl rfl))
end Go.Proofs.Ytglfcaioapdiaaa.Bk

namespace Go.Proofs.Ytglfcaioapdiaaa.Bk
open Go Go.RowKit Go.Proofs.Ytglfcaioapdiaaa.Aw
set_option linter.unusedSimpArgs false
set_option linter.unusedVariables false
attribute [local irreducible] AW SQ Step RO RC DE Thn InB
theorem mkI_get {z : Int} {xs : List Int} {i : Nat} (h : i < xs.length) : ((ramp (up z) xs i).map inL)[i]? = some (inL xs[i]) := by
  rw [List.getElem?_map, ramp_get h]; rfl
theorem mkI_set {z : Int} {xs : List Int} {i : Nat} (h : i < xs.length) : ((ramp (up z) xs i).map inL).set i (inL (z + (i : Int))) = (ramp (up z) xs (i + 1)).map inL := by
  rw [← ramp_set h, List.map_set]; rfl
set_option maxHeartbeats 4000000 in
theorem markInt64S_rc (b : Nat) (xs : List Int) (z : Int) (hn : xs.length ≤ 1048576) (h0 : 0 ≤ z) (h1 : z ≤ 1073741824) (k : Nat) :
    RC Try.prog 19 [.sl b 0 xs.length, .v (.int .i64 z)] [(b, ⟨2, 1, true, xs.map inL⟩)] k (.v (.int .i64 (z + (xs.length : Int)))) [(b, some ⟨2, 1, true, ((List.range xs.length).map (up z)).map inL⟩)] k := by
  refine RC.ofc [b] 0 [.sl 0 0 xs.length, .v (.int .i64 z)] [(0, ⟨2, 1, true, xs.map inL⟩)] (.v (.int .i64 (z + (xs.length : Int)))) [(0, some ⟨2, 1, true, ((List.range xs.length).map (up z)).map inL⟩)] Try.func19 Try.ntmps19 rfl (goFn_of Try.func19 rfl (by kernel_rfl)) rfl rfl rfl rfl rfl rfl rfl rfl (by simp_all) rfl ?_
  ((repeat' (first
    | (show SQ _ _ _ _ _ _ _ _; first | apply sq_nil | (apply q_assign; exact rfl; exact rfl))
    | (show AW _ _ _ _ _ _ _ _; first | refine aw_region ?_ | (refine aw_seqk ?_; intro K hK) | refine aw_block ?_)
    | refine thn_n ?_
    | (refine hK _ _ _ ?_; clear hK K))); all_goals (repeat (clear hK K)))
  refine aw_loop (ρ := id) (ι := Nat) (fun i => ([(5, .v (.int .i64 i)), (1, .v (.int .i64 (z + (i : Int)))), (0, .sl 0 0 xs.length)], [(0, ⟨2, 1, true, (ramp (up z) xs i).map inL⟩)], 1))
    (fun i => i ≤ xs.length) (fun i => xs.length - i) 0 (Nat.zero_le _) ⟨by (repeat (refine ⟨by first | exact lk_i rfl rfl | exact lk_i rfl (by (try dsimp only); first | rfl | omega | (rw [IntWalk.i64_in _ (by omega)]; first | rfl | omega | (push_cast; omega)) | (simp; done) | (simp; omega)) | exact lk_s rfl rfl rfl rfl, ?_⟩)); exact trivial, by (repeat (refine ⟨by first | exact ⟨rfl, rfl, rfl⟩, ?_⟩)); exact trivial, by rfl, by (intro i hi; (try dsimp only); refine ⟨?_, ?_⟩ <;> first | rfl | omega | (simp at hi; omega) | (simp; omega))⟩ ?_
  intro i hi
  by_cases c2 : i < xs.length
  · have b2 : decide ((i : Int) < ((xs.length : Nat) : Int)) = true := by simpa using c2
    have hr2 : ((ramp (up z) xs i).map inL)[0 + ((i : Int)).toNat]? = some (inL xs[i]) := by simpa using mkI_get (z := z) c2
    rw [inL_eq] at hr2
    have hw : IntKind.i64.wrap (z + (i : Int) + 1) = z + ((i + 1 : Nat) : Int) := by rw [IntWalk.i64_in _ (by omega)]; omega
    ((repeat' (first
    | (show SQ _ _ _ _ _ _ _ _; first | apply sq_nil | (apply q_move; exact rfl; exact rfl) | (apply q_assign; exact rfl; exact rfl) | (apply q_lenl; exact rfl; exact rfl; exact (ty rfl); exact rfl) | (apply q_add; exact rfl; exact rfl; exact rfl) | (apply q_lss; exact rfl; exact rfl; exact rfl) | (apply q_ixl; exact rfl; exact rfl; exact rfl; exact (ty rfl); exact rfl; exact rfl; exact rfl; exact (by first | omega | (simp; done) | (simp; omega)); exact (by first | omega | (simp; done) | (simp; omega))))
    | (show SQ _ _ _ _ _ _ _ _; (first | (apply q_store; exact rfl; exact rfl; exact (ty rfl); exact rfl; exact (by first | rfl | assumption | ((try simp only [Nat.zero_add]); refine List.getElem?_set_self ?_; (try simp only [List.length_set]); assumption)); exact rfl; exact rfl; exact rfl)); (try simp only [put, rowsOf, plR, List.all_cons, selE, ovr, setH, del, cellsA, splice, isV, List.nil_append, List.cons_append, List.map_cons, List.map_nil, List.length_cons, List.length_nil, List.set_cons_zero, List.set_cons_succ, List.take_succ_cons, List.take_zero, List.take_nil, List.drop_succ_cons, List.drop_zero, List.drop_nil, List.append_nil, List.all_cons, List.all_nil, Bool.and_true, Bool.true_and, Bool.and_false, Bool.false_and, Nat.reduceAdd, Nat.zero_add, Nat.add_zero, Nat.reduceEqDiff, if_true, if_false, reduceIte]))
    | (show AW _ _ _ _ _ _ _ _; first | refine aw_region ?_ | (refine aw_seqk ?_; intro K hK) | refine aw_block ?_ | (apply aw_cond_t; exact rfl; exact (by assumption)) | refine aw_skip ?_)
    | refine thn_n ?_
    | (refine hK _ _ _ ?_; clear hK K)
    | refine inb_n ?_)); all_goals (repeat (clear hK K)))
    exact ⟨i + 1, id, c2, by omega, ⟨by (repeat (refine ⟨by first | exact lk_i rfl (by (try dsimp only); first | rfl | omega | (rw [IntWalk.i64_in _ (by omega)]; first | rfl | omega | (push_cast; omega)) | (simp; done) | (simp; omega)) | exact lk_s rfl rfl rfl rfl, ?_⟩)); exact trivial, by (repeat (refine ⟨by first | exact lkb rfl rfl rfl (by rw [← mkI_set c2]; simp; rfl) rfl, ?_⟩)); exact trivial, by rfl, by (intro i hi; (try dsimp only); refine ⟨?_, ?_⟩ <;> first | rfl | omega | (simp at hi; omega) | (simp; omega))⟩⟩
  · have b2 : decide ((i : Int) < ((xs.length : Nat) : Int)) = false := by simpa using c2
    obtain rfl : i = xs.length := by omega
    ((repeat' (first
    | (show SQ _ _ _ _ _ _ _ _; first | apply sq_nil | (apply q_move; exact rfl; exact rfl) | (apply q_assign; exact rfl; exact rfl) | (apply q_lenl; exact rfl; exact rfl; exact (ty rfl); exact rfl) | (apply q_lss; exact rfl; exact rfl; exact rfl))
    | (show AW _ _ _ _ _ _ _ _; first | refine aw_region ?_ | (refine aw_seqk ?_; intro K hK) | (apply aw_cond_f; exact rfl; exact (by assumption)) | refine aw_ret ?_ | refine aw_exit ?_)
    | refine thn_n ?_
    | (refine hK _ _ _ ?_; clear hK K)
    | refine thn_e ?_
    | refine inb_same ?_
    | (clear hK K; refine hK _ _ _ ?_; clear hK K))); all_goals (repeat (clear hK K)))
    exact finc (fun i => i) (.r1 _ _ (.tmp _ _ rfl)) rfl (fun _ _ => rfl) ⟨by rw [ramp_full]; rfl, trivial⟩ rfl
def up4 (z : Int) (i : Nat) : Ln := ⟨z + 4 * (i : Int), z + 4 * (i : Int) + 1, z + 4 * (i : Int) + 2, z + 4 * (i : Int) + 3⟩
theorem mkL_get {z : Int} {xs : List Ln} {i : Nat} (h : i < xs.length) : ((ramp (up4 z) xs i).map lnL)[i]? = some (lnL xs[i]) := by
  rw [List.getElem?_map, ramp_get h]; rfl
theorem mkL_set {z : Int} {xs : List Ln} {i : Nat} (h : i < xs.length) : ((ramp (up4 z) xs i).map lnL).set i (lnL (up4 z i)) = (ramp (up4 z) xs (i + 1)).map lnL := by
  rw [← ramp_set h, List.map_set]
set_option maxHeartbeats 4000000 in
theorem markLinkS_rc (b : Nat) (xs : List Ln) (z : Int) (hn : xs.length ≤ 1048576) (h0 : 0 ≤ z) (h1 : z ≤ 1073741824) (k : Nat) :
    RC Try.prog 52 [.sl b 0 xs.length, .v (.int .i64 z)] [(b, ⟨56, 4, true, xs.map lnL⟩)] k (.v (.int .i64 (z + 4 * (xs.length : Int)))) [(b, some ⟨56, 4, true, ((List.range xs.length).map (up4 z)).map lnL⟩)] k := by
  refine RC.ofc [b] 0 [.sl 0 0 xs.length, .v (.int .i64 z)] [(0, ⟨56, 4, true, xs.map lnL⟩)] (.v (.int .i64 (z + 4 * (xs.length : Int)))) [(0, some ⟨56, 4, true, ((List.range xs.length).map (up4 z)).map lnL⟩)] Try.func52 Try.ntmps52 rfl (goFn_of Try.func52 rfl (by kernel_rfl)) rfl rfl rfl rfl rfl rfl rfl rfl (by simp_all) rfl ?_
  ((repeat' (first
    | (show SQ _ _ _ _ _ _ _ _; first | apply sq_nil | (apply q_assign; exact rfl; exact rfl))
    | (show AW _ _ _ _ _ _ _ _; first | refine aw_region ?_ | (refine aw_seqk ?_; intro K hK) | refine aw_block ?_)
    | refine thn_n ?_
    | (refine hK _ _ _ ?_; clear hK K))); all_goals (repeat (clear hK K)))
  refine aw_loop (ρ := id) (ι := Nat) (fun i => ([(5, .v (.int .i64 i)), (1, .v (.int .i64 (z + 4 * (i : Int)))), (0, .sl 0 0 xs.length)], [(0, ⟨56, 4, true, (ramp (up4 z) xs i).map lnL⟩)], 1))
    (fun i => i ≤ xs.length) (fun i => xs.length - i) 0 (Nat.zero_le _) ⟨by (repeat (refine ⟨by first | exact lk_i rfl rfl | exact lk_i rfl (by (try dsimp only); first | rfl | omega | (rw [IntWalk.i64_in _ (by omega)]; first | rfl | omega | (push_cast; omega)) | (simp; done) | (simp; omega)) | exact lk_s rfl rfl rfl rfl, ?_⟩)); exact trivial, by (repeat (refine ⟨by first | exact ⟨rfl, rfl, rfl⟩, ?_⟩)); exact trivial, by rfl, by (intro i hi; (try dsimp only); refine ⟨?_, ?_⟩ <;> first | rfl | omega | (simp at hi; omega) | (simp; omega))⟩ ?_
  intro i hi
  by_cases c2 : i < xs.length
  · have b2 : decide ((i : Int) < ((xs.length : Nat) : Int)) = true := by simpa using c2
    have hr2 : ((ramp (up4 z) xs i).map lnL)[0 + ((i : Int)).toNat]? = some (lnL xs[i]) := by simpa using mkL_get (z := z) c2
    have hlen : ((i : Int)).toNat < ((ramp (up4 z) xs i).map lnL).length := by have := (List.getElem?_eq_some_iff.1 hr2).1; omega
    rw [lnL_eq] at hr2
    have hw1 : IntKind.i64.wrap (z + 4 * (i : Int) + 1) = z + 4 * (i : Int) + 1 := IntWalk.i64_in _ (by omega)
    have hw2 : IntKind.i64.wrap (z + 4 * (i : Int) + 1 + 1) = z + 4 * (i : Int) + 2 := by rw [IntWalk.i64_in _ (by omega)]; omega
    have hw3 : IntKind.i64.wrap (z + 4 * (i : Int) + 2 + 1) = z + 4 * (i : Int) + 3 := by rw [IntWalk.i64_in _ (by omega)]; omega
    have hw4 : IntKind.i64.wrap (z + 4 * (i : Int) + 3 + 1) = z + 4 * ((i + 1 : Nat) : Int) := by rw [IntWalk.i64_in _ (by omega)]; omega
    ((repeat' (first
    | (show SQ _ _ _ _ _ _ _ _; first | apply sq_nil | (apply q_move; exact rfl; exact rfl) | (apply q_assign; exact rfl; exact rfl) | (apply q_fieldAddr; exact rfl; exact rfl; exact (ty rfl); exact rfl; exact rfl; exact rfl; exact rfl) | (apply q_lenl; exact rfl; exact rfl; exact (ty rfl); exact rfl) | (apply q_add; exact rfl; exact rfl; exact rfl) | (apply q_lss; exact rfl; exact rfl; exact rfl) | (apply q_ixl; exact rfl; exact rfl; exact rfl; exact (ty rfl); exact rfl; exact rfl; exact rfl; exact (by first | omega | (simp; done) | (simp; omega)); exact (by first | omega | (simp; done) | (simp; omega))))
    | (show SQ _ _ _ _ _ _ _ _; (first | (apply q_store; exact rfl; exact rfl; exact (ty rfl); exact rfl; exact (by first | rfl | assumption | ((try simp only [Nat.zero_add]); refine List.getElem?_set_self ?_; (try simp only [List.length_set]); assumption)); exact rfl; exact rfl; exact rfl)); (try simp only [put, rowsOf, plR, List.all_cons, selE, ovr, setH, del, cellsA, splice, isV, List.nil_append, List.cons_append, List.map_cons, List.map_nil, List.length_cons, List.length_nil, List.set_cons_zero, List.set_cons_succ, List.take_succ_cons, List.take_zero, List.take_nil, List.drop_succ_cons, List.drop_zero, List.drop_nil, List.append_nil, List.all_cons, List.all_nil, Bool.and_true, Bool.true_and, Bool.and_false, Bool.false_and, Nat.reduceAdd, Nat.zero_add, Nat.add_zero, Nat.reduceEqDiff, if_true, if_false, reduceIte]))
    | (show AW _ _ _ _ _ _ _ _; first | refine aw_region ?_ | (refine aw_seqk ?_; intro K hK) | refine aw_block ?_ | (apply aw_cond_t; exact rfl; exact (by assumption)) | refine aw_skip ?_)
    | refine thn_n ?_
    | (refine hK _ _ _ ?_; clear hK K)
    | refine inb_n ?_)); all_goals (repeat (clear hK K)))
    simp only [hw1, hw2, hw3, hw4, List.set_set]
    exact ⟨i + 1, id, c2, by omega, ⟨by (repeat (refine ⟨by first | exact lk_i rfl rfl | exact lk_i rfl (by (try dsimp only); first | rfl | omega | (rw [IntWalk.i64_in _ (by omega)]; first | rfl | omega | (push_cast; omega)) | (simp; done) | (simp; omega)) | exact lk_s rfl rfl rfl rfl, ?_⟩)); exact trivial, by (repeat (refine ⟨by first | exact lkb rfl rfl rfl (by rw [← mkL_set c2]; simp only [List.set_set, Nat.zero_add, Int.toNat_natCast]; rfl) rfl, ?_⟩)); exact trivial, by rfl, by (intro i hi; (try dsimp only); refine ⟨?_, ?_⟩ <;> first | rfl | omega | (simp at hi; omega) | (simp; omega))⟩⟩
  · have b2 : decide ((i : Int) < ((xs.length : Nat) : Int)) = false := by simpa using c2
    obtain rfl : i = xs.length := by omega
    ((repeat' (first
    | (show SQ _ _ _ _ _ _ _ _; first | apply sq_nil | (apply q_move; exact rfl; exact rfl) | (apply q_assign; exact rfl; exact rfl) | (apply q_lenl; exact rfl; exact rfl; exact (ty rfl); exact rfl) | (apply q_lss; exact rfl; exact rfl; exact rfl))
    | (show AW _ _ _ _ _ _ _ _; first | refine aw_region ?_ | (refine aw_seqk ?_; intro K hK) | (apply aw_cond_f; exact rfl; exact (by assumption)) | refine aw_ret ?_ | refine aw_exit ?_)
    | refine thn_n ?_
    | (refine hK _ _ _ ?_; clear hK K)
    | refine thn_e ?_
    | refine inb_same ?_
    | (clear hK K; refine hK _ _ _ ?_; clear hK K))); all_goals (repeat (clear hK K)))
    exact finc (fun i => i) (.r1 _ _ (.tmp _ _ rfl)) rfl (fun _ _ => rfl) ⟨by rw [ramp_full]; rfl, trivial⟩ rfl
set_option maxHeartbeats 4000000 in
theorem markBackhaul_rc (b : Nat) (n : Int) (xs : List Ln) (z : Int) (hn : xs.length ≤ 1048576) (h0 : 0 ≤ z) (h1 : z ≤ 1073741824) (k : Nat) :
    RC Try.prog 18 [.agg [.v (.int .i64 n), .sl b 0 xs.length], .v (.int .i64 z)] [(b, ⟨56, 4, true, xs.map lnL⟩)] k (.v (.int .i64 (z + 4 * (xs.length : Int)))) [(b, some ⟨56, 4, true, ((List.range xs.length).map (up4 z)).map lnL⟩)] k := by
  refine RC.ofc [b] 0 [.agg [.v (.int .i64 n), .sl 0 0 xs.length], .v (.int .i64 z)] [(0, ⟨56, 4, true, xs.map lnL⟩)] (.v (.int .i64 (z + 4 * (xs.length : Int)))) [(0, some ⟨56, 4, true, ((List.range xs.length).map (up4 z)).map lnL⟩)] Try.func18 Try.ntmps18 rfl (goFn_of Try.func18 rfl (by kernel_rfl)) rfl rfl rfl rfl rfl rfl rfl rfl (by simp_all) rfl ?_
  ((repeat' (first
    | (show SQ _ _ _ _ _ _ _ _; first | apply sq_nil | (apply q_move; exact rfl; exact rfl) | (apply q_assign; exact rfl; exact rfl) | (apply q_fieldAddr; exact rfl; exact rfl; exact (ty rfl); exact rfl; exact rfl; exact rfl; exact rfl) | (apply q_ld1p; exact rfl; exact rfl; exact (ty rfl); exact rfl; exact rfl; exact (by first | rfl | assumption | ((try simp only [Nat.zero_add]); refine List.getElem?_set_self ?_; (try simp only [List.length_set]); assumption)); exact rfl))
    | (show SQ _ _ _ _ _ _ _ _; (first | (apply q_box; exact rfl; exact rfl; exact rfl) | (apply q_callC; exact rfl; exact rfl; exact rfl; exact markLinkS_rc 0 xs z hn h0 h1 _; (focus ((repeat (first | exact trivial | refine ⟨by first | exact rfl | assumption, ?_⟩)); done)); skip)); (try simp only [put, rowsOf, plR, List.all_cons, selE, ovr, setH, del, cellsA, splice, isV, List.nil_append, List.cons_append, List.map_cons, List.map_nil, List.length_cons, List.length_nil, List.set_cons_zero, List.set_cons_succ, List.take_succ_cons, List.take_zero, List.take_nil, List.drop_succ_cons, List.drop_zero, List.drop_nil, List.append_nil, List.all_cons, List.all_nil, Bool.and_true, Bool.true_and, Bool.and_false, Bool.false_and, Nat.reduceAdd, Nat.zero_add, Nat.add_zero, Nat.reduceEqDiff, if_true, if_false, reduceIte]))
    | (show AW _ _ _ _ _ _ _ _; first | refine aw_region ?_ | (refine aw_seqk ?_; intro K hK) | refine aw_ret ?_)
    | refine thn_n ?_
    | (refine hK _ _ _ ?_; clear hK K))); all_goals (repeat (clear hK K)))
  exact finc (fun i => i) (.r1 _ _ (.tmp _ _ rfl)) rfl (fun _ _ => rfl) ⟨rfl, trivial⟩ rfl
end Go.Proofs.Ytglfcaioapdiaaa.Bk

namespace Go.Proofs.Ytglfcaioapdiaaa.Bk
open Go Go.RowKit Go.Proofs.Ytglfcaioapdiaaa.Aw
set_option linter.unusedSimpArgs false
set_option linter.unusedVariables false
attribute [local irreducible] AW SQ Step RO RC DE Thn InB
set_option maxHeartbeats 4000000 in
theorem markNil_ro (z : Int) (k : Nat) : RO Try.prog 19 [.dsl 1 [], .v (.int .i64 z)] k (.v (.int .i64 z)) [] k := by
  refine RO.ofv' Try.func19 Try.ntmps19 rfl (goFn_of Try.func19 rfl (by kernel_rfl)) rfl rfl ?_
  ((repeat' (first
    | (show SQ _ _ _ _ _ _ _ _; first | apply sq_nil | (apply q_assign; exact rfl; exact rfl))
    | (show AW _ _ _ _ _ _ _ _; first | refine aw_region ?_ | (refine aw_seqk ?_; intro K hK) | refine aw_block ?_)
    | refine thn_n ?_
    | (refine hK _ _ _ ?_; clear hK K))); all_goals (repeat (clear hK K)))
  refine aw_loop (ρ := id) (ι := Nat) (fun i => ([(5, .v (.int .i64 0)), (1, .v (.int .i64 z)), (0, .dsl 1 [])], [], 0))
    (fun i => i = 0) (fun i => i) 0 rfl ⟨by (repeat (refine ⟨by first | exact lk_i rfl rfl | exact lk_d rfl rfl, ?_⟩)); exact trivial, by exact trivial, by rfl, by exact pin_0⟩ ?_
  rintro i rfl
  ((repeat' (first
    | (show SQ _ _ _ _ _ _ _ _; first | apply sq_nil | (apply q_move; exact rfl; exact rfl) | (apply q_assign; exact rfl; exact rfl) | (apply q_lend; exact rfl; exact rfl; exact (ty rfl); exact rfl) | (apply q_lss; exact rfl; exact rfl; exact rfl))
    | (show AW _ _ _ _ _ _ _ _; first | refine aw_region ?_ | (refine aw_seqk ?_; intro K hK) | (apply aw_cond_f; exact rfl; exact rfl) | refine aw_ret ?_ | refine aw_exit ?_)
    | refine thn_n ?_
    | (refine hK _ _ _ ?_; clear hK K)
    | refine thn_e ?_
    | refine inb_same ?_
    | (clear hK K; refine hK _ _ _ ?_; clear hK K))); all_goals (repeat (clear hK K)))
  all_goals first | (exfalso; simp_all; done) | (exact fin_r (fin_i rfl rfl))
set_option maxHeartbeats 4000000 in
theorem heldNil_ro (z : Int) (h0 : 0 ≤ z) (h1 : z ≤ 1073741824) (k : Nat) : RO Try.prog 20 [.dsl 1 [], .v (.int .i64 z)] k (.v (.int .i64 z)) [] k := by
  have := heldInt64S_ro 0 z (by omega) h0 h1 k
  simpa using this
set_option maxHeartbeats 4000000 in
theorem eqNil_ro (k : Nat) : RO Try.prog 16 [.dsl 1 [], .dsl 1 []] k (.v (.bool true)) [] k := eqInt64S_ro [] (by simp) k
end Go.Proofs.Ytglfcaioapdiaaa.Bk

namespace Go.Proofs.Ytglfcaioapdiaaa.Bk
open Go Go.RowKit Go.Proofs.Ytglfcaioapdiaaa.Aw
set_option linter.unusedSimpArgs false
set_option linter.unusedVariables false
attribute [local irreducible] AW SQ Step RO RC DE Thn InB
theorem bkB_32 {n : Int} {ls : List Ln} (h : bkB n ls = true) : ls.length ≤ 32 := by
  simp only [bkB, Bool.and_eq_true, decide_eq_true_eq] at h
  omega
set_option maxHeartbeats 4000000 in
theorem lawSpan_ro (n : Int) (ls : List Ln) (hn : ls.length ≤ 9223372036854775807) (k : Nat) : RO Try.prog 8 [.agg (bkL n ls)] k (.v (.bool true)) [] k := by
  unfold bkL
  by_cases c1 : szB ls.length 1048576 < 0
  · have b1 : decide (szB ls.length 1048576 < 0) = true := by simpa using c1
    refine RO.ofv' Try.func8 Try.ntmps8 rfl (goFn_of Try.func8 rfl (by kernel_rfl)) rfl rfl ?_
    ((repeat' (first
    | (show SQ _ _ _ _ _ _ _ _; first | apply sq_nil | (apply q_move; exact rfl; exact rfl) | (apply q_assign; exact rfl; exact rfl) | (apply q_lss; exact rfl; exact rfl; exact rfl))
    | (show SQ _ _ _ _ _ _ _ _; (first | (apply q_ldap; exact rfl; exact rfl; exact (ty rfl); exact rfl; exact rfl; exact (by first | rfl | assumption | ((try simp only [Nat.zero_add]); refine List.getElem?_set_self ?_; (try simp only [List.length_set]); assumption)); exact rfl) | (apply q_box; exact rfl; exact rfl; exact rfl) | (apply q_callU; exact rfl; exact rfl; exact rfl; exact FzL.of rfl; exact szBackhaul_ro n ls 1048576 hn (by omega) (by omega) _)); (try simp only [put, rowsOf, plR, List.all_cons, selE, ovr, setH, del, cellsA, splice, isV, List.nil_append, List.cons_append, List.map_cons, List.map_nil, List.length_cons, List.length_nil, List.set_cons_zero, List.set_cons_succ, List.take_succ_cons, List.take_zero, List.take_nil, List.drop_succ_cons, List.drop_zero, List.drop_nil, List.append_nil, List.all_cons, List.all_nil, Bool.and_true, Bool.true_and, Bool.and_false, Bool.false_and, Nat.reduceAdd, Nat.zero_add, Nat.add_zero, Nat.reduceEqDiff, if_true, if_false, reduceIte]))
    | (show AW _ _ _ _ _ _ _ _; first | refine aw_region ?_ | (refine aw_seqk ?_; intro K hK) | (apply aw_cond_t; exact rfl; exact (by assumption)) | refine aw_ret ?_)
    | refine thn_n ?_
    | (refine hK _ _ _ ?_; clear hK K)
    | refine thn_r ?_)); all_goals (repeat (clear hK K)))
    all_goals exact fin_r (fin_b rfl rfl)
  have b1 : decide (szB ls.length 1048576 < 0) = false := by simpa using c1
  obtain ⟨m1, z0, z1, _⟩ := szB_in (by omega) (by omega) c1
  have b3 : decide ((1 + 4 * (ls.length : Int)) < 0) = false := by simp; omega
  have b4 : decide ((1 : Int) < 0) = false := by simp
  by_cases c2 : bkB n ls = true
  · have h32 := bkB_32 c2
    have hlen := spT_len n ls (ordK ls) ls.length
    change (treK n ls).length ≤ _ at hlen
    have hse := So.srt_len (treK n ls)
    by_cases c3 : ((treK n ls).length : Int) = n - 1
    · have hSp := specSpan_okR n ls m1 h32 c2 c3
      have hIm := implSpan_okR n ls m1 h32 c2 c3
      rw [← hse] at hSp hIm hlen
      generalize So.srt (treK n ls) = R at hlen hSp hIm
      have m3 : R.length ≤ 1048576 := by omega
      have b5 : decide (1 + (R.length : Int) < 0) = false := by simp; omega
      have b6 : ((1 + (R.length : Int)) != (1 + (R.length : Int))) = false := by simp
      refine RO.ofv' Try.func8 Try.ntmps8 rfl (goFn_of Try.func8 rfl (by kernel_rfl)) rfl rfl ?_
      ((repeat' (first
    | (show SQ _ _ _ _ _ _ _ _; first | apply sq_nil | (apply q_move; exact rfl; exact rfl) | (apply q_assign; exact rfl; exact rfl) | (apply q_pick_f; exact rfl; exact rfl; exact rfl; exact (by first | assumption | exact rfl)) | (apply q_not; exact rfl; exact rfl) | (apply q_ext; exact rfl; exact rfl; exact rfl) | (apply q_neq; exact rfl; exact rfl; exact rfl) | (apply q_lss; exact rfl; exact rfl; exact rfl) | (apply q_g; exact rfl; exact rfl; exact rfl; exact (by assumption)))
    | (show SQ _ _ _ _ _ _ _ _; (first | (apply q_ldap; exact rfl; exact rfl; exact (ty rfl); exact rfl; exact rfl; exact (by first | rfl | assumption | ((try simp only [Nat.zero_add]); refine List.getElem?_set_self ?_; (try simp only [List.length_set]); assumption)); exact rfl) | (apply q_box; exact rfl; exact rfl; exact rfl) | (apply q_alloc; exact rfl; exact (ty rfl); exact rfl; exact rfl) | (apply q_store; exact rfl; exact rfl; exact (ty rfl); exact rfl; exact (by first | rfl | assumption | ((try simp only [Nat.zero_add]); refine List.getElem?_set_self ?_; (try simp only [List.length_set]); assumption)); exact rfl; exact rfl; exact rfl) | (apply q_callU; exact rfl; exact rfl; exact rfl; exact FzL.of rfl; exact szBackhaul_ro n ls 1048576 hn (by omega) (by omega) _) | (apply q_callU; exact rfl; exact rfl; exact rfl; exact FzL.of rfl; exact toBackhaul_ro n ls m1 _) | (apply q_callU; exact rfl; exact rfl; exact rfl; rotate_left; exact hSp _; rotate_right; focus ((repeat' (first | exact FzL.nil | exact (by assumption : FzC _) _ | refine FzL.cons ?_ ?_ | exact Fz.of rfl | exact Fz.nil | exact Fz.emp | (apply Fz.fnC; assumption) | (apply Fz.sl2; exact rfl; exact (by first | omega | (simp; done) | (simp; omega)); first | exact rfl | exact dt_full (by first | omega | (simp; done) | (simp; omega)) | assumption) | apply Fz.agg | (apply Fz.ptrL; exact rfl; first | exact rfl | assumption) | apply Fz.fnL)); done)) | (apply q_callU; exact rfl; exact rfl; exact rfl; rotate_left; exact hIm _; rotate_right; focus ((repeat' (first | exact FzL.nil | exact (by assumption : FzC _) _ | refine FzL.cons ?_ ?_ | exact Fz.of rfl | exact Fz.nil | exact Fz.emp | (apply Fz.fnC; assumption) | (apply Fz.sl2; exact rfl; exact (by first | omega | (simp; done) | (simp; omega)); first | exact rfl | exact dt_full (by first | omega | (simp; done) | (simp; omega)) | assumption) | apply Fz.agg | (apply Fz.ptrL; exact rfl; first | exact rfl | assumption) | apply Fz.fnL)); done)) | (apply q_callU; exact rfl; exact rfl; exact rfl; rotate_left; exact eqInt64S_ro R m3 _; rotate_right; focus ((repeat' (first | exact FzL.nil | exact (by assumption : FzC _) _ | refine FzL.cons ?_ ?_ | exact Fz.of rfl | exact Fz.nil | exact Fz.emp | (apply Fz.fnC; assumption) | (apply Fz.sl2; exact rfl; exact (by first | omega | (simp; done) | (simp; omega)); first | exact rfl | exact dt_full (by first | omega | (simp; done) | (simp; omega)) | assumption) | apply Fz.agg | (apply Fz.ptrL; exact rfl; first | exact rfl | assumption) | apply Fz.fnL)); done)) | (apply q_callU; exact rfl; exact rfl; exact rfl; rotate_left; exact heldInt64S_ro R.length 1 m3 (by omega) (by omega) _; rotate_right; focus ((repeat' (first | exact FzL.nil | exact (by assumption : FzC _) _ | refine FzL.cons ?_ ?_ | exact Fz.of rfl | exact Fz.nil | exact Fz.emp | (apply Fz.fnC; assumption) | (apply Fz.sl2; exact rfl; exact (by first | omega | (simp; done) | (simp; omega)); first | exact rfl | exact dt_full (by first | omega | (simp; done) | (simp; omega)) | assumption) | apply Fz.agg | (apply Fz.ptrL; exact rfl; first | exact rfl | assumption) | apply Fz.fnL)); done)) | (apply q_callC; exact rfl; exact rfl; exact rfl; exact markBackhaul_rc _ n ls 1 m1 (by omega) (by omega) _; (focus ((repeat (first | exact trivial | refine ⟨by first | exact rfl | assumption, ?_⟩)); done)); skip) | (apply q_callC; exact rfl; exact rfl; exact rfl; exact markInt64S_rc _ R 1 m3 (by omega) (by omega) _; (focus ((repeat (first | exact trivial | refine ⟨by first | exact rfl | assumption, ?_⟩)); done)); skip)); (try simp only [put, rowsOf, plR, List.all_cons, selE, ovr, setH, del, cellsA, splice, isV, List.nil_append, List.cons_append, List.map_cons, List.map_nil, List.length_cons, List.length_nil, List.set_cons_zero, List.set_cons_succ, List.take_succ_cons, List.take_zero, List.take_nil, List.drop_succ_cons, List.drop_zero, List.drop_nil, List.append_nil, List.all_cons, List.all_nil, Bool.and_true, Bool.true_and, Bool.and_false, Bool.false_and, Nat.reduceAdd, Nat.zero_add, Nat.add_zero, Nat.reduceEqDiff, if_true, if_false, reduceIte]))
    | (show DE _ _ _ _ _ _ _ _ _ _ _ _; first | (apply e_not; exact rfl; exact rfl; exact rfl))
    | (show DE _ _ _ _ _ _ _ _ _ _ _ _; (first | (apply dr_nil; exact trivial) | (apply e_ldap; exact rfl; exact rfl; exact (ty rfl); exact rfl; exact rfl; exact (by first | rfl | assumption | ((try simp only [Nat.zero_add]); refine List.getElem?_set_self ?_; (try simp only [List.length_set]); assumption)); exact rfl; exact rfl) | (apply e_callU; exact rfl; exact rfl; exact rfl; exact FzL.of rfl; exact toBackhaul_ro n ls m1 _; exact rfl) | (apply e_callU; exact rfl; exact rfl; exact rfl; rotate_left; exact eqBackhaul_ro n ls m1 _; exact rfl; rotate_right; focus ((repeat' (first | exact FzL.nil | exact (by assumption : FzC _) _ | refine FzL.cons ?_ ?_ | exact Fz.of rfl | exact Fz.nil | exact Fz.emp | (apply Fz.fnC; assumption) | (apply Fz.sl2; exact rfl; exact (by first | omega | (simp; done) | (simp; omega)); first | exact rfl | exact dt_full (by first | omega | (simp; done) | (simp; omega)) | assumption) | apply Fz.agg | (apply Fz.ptrL; exact rfl; first | exact rfl | assumption) | apply Fz.fnL)); done))); (try simp only [put, rowsOf, plR, List.all_cons, selE, ovr, setH, del, cellsA, splice, isV, List.nil_append, List.cons_append, List.map_cons, List.map_nil, List.length_cons, List.length_nil, List.set_cons_zero, List.set_cons_succ, List.take_succ_cons, List.take_zero, List.take_nil, List.drop_succ_cons, List.drop_zero, List.drop_nil, List.append_nil, List.all_cons, List.all_nil, Bool.and_true, Bool.true_and, Bool.and_false, Bool.false_and, Nat.reduceAdd, Nat.zero_add, Nat.add_zero, Nat.reduceEqDiff, if_true, if_false, reduceIte]))
    | (show AW _ _ _ _ _ _ _ _; first | refine aw_region ?_ | (refine aw_seqk ?_; intro K hK) | (apply aw_cond_f; exact rfl; exact rfl) | (apply aw_cond_f; exact rfl; exact (by assumption)) | refine aw_ret ?_ | refine aw_skip ?_ | refine aw_drawE (id := 10) [0, 0, 2, 7, 15] [1, 1, 1, 1, 0] mixed (by kernel_rfl) ?_)
    | refine thn_n ?_
    | (refine hK _ _ _ ?_; clear hK K))); all_goals (repeat (clear hK K)))
      all_goals exact fin_r (fin_b rfl rfl)
    · have hSp := specSpan_none n ls m1 h32 c2 c3
      have hIm := implSpan_none n ls m1 h32 c2 c3
      refine RO.ofv' Try.func8 Try.ntmps8 rfl (goFn_of Try.func8 rfl (by kernel_rfl)) rfl rfl ?_
      ((repeat' (first
    | (show SQ _ _ _ _ _ _ _ _; first | apply sq_nil | (apply q_move; exact rfl; exact rfl) | (apply q_assign; exact rfl; exact rfl) | (apply q_pick_f; exact rfl; exact rfl; exact rfl; exact (by first | assumption | exact rfl)) | (apply q_not; exact rfl; exact rfl) | (apply q_ext; exact rfl; exact rfl; exact rfl) | (apply q_neq; exact rfl; exact rfl; exact rfl) | (apply q_lss; exact rfl; exact rfl; exact rfl) | (apply q_g; exact rfl; exact rfl; exact rfl; exact (by assumption)))
    | (show SQ _ _ _ _ _ _ _ _; (first | (apply q_ldap; exact rfl; exact rfl; exact (ty rfl); exact rfl; exact rfl; exact (by first | rfl | assumption | ((try simp only [Nat.zero_add]); refine List.getElem?_set_self ?_; (try simp only [List.length_set]); assumption)); exact rfl) | (apply q_box; exact rfl; exact rfl; exact rfl) | (apply q_alloc; exact rfl; exact (ty rfl); exact rfl; exact rfl) | (apply q_store; exact rfl; exact rfl; exact (ty rfl); exact rfl; exact (by first | rfl | assumption | ((try simp only [Nat.zero_add]); refine List.getElem?_set_self ?_; (try simp only [List.length_set]); assumption)); exact rfl; exact rfl; exact rfl) | (apply q_callU; exact rfl; exact rfl; exact rfl; exact FzL.of rfl; exact szBackhaul_ro n ls 1048576 hn (by omega) (by omega) _) | (apply q_callU; exact rfl; exact rfl; exact rfl; exact FzL.of rfl; exact toBackhaul_ro n ls m1 _) | (apply q_callU; exact rfl; exact rfl; exact rfl; rotate_left; exact hSp _; rotate_right; focus ((repeat' (first | exact FzL.nil | exact (by assumption : FzC _) _ | refine FzL.cons ?_ ?_ | exact Fz.of rfl | exact Fz.nil | exact Fz.emp | (apply Fz.fnC; assumption) | (apply Fz.sl2; exact rfl; exact (by first | omega | (simp; done) | (simp; omega)); first | exact rfl | exact dt_full (by first | omega | (simp; done) | (simp; omega)) | assumption) | apply Fz.agg | (apply Fz.ptrL; exact rfl; first | exact rfl | assumption) | apply Fz.fnL)); done)) | (apply q_callU; exact rfl; exact rfl; exact rfl; rotate_left; exact hIm _; rotate_right; focus ((repeat' (first | exact FzL.nil | exact (by assumption : FzC _) _ | refine FzL.cons ?_ ?_ | exact Fz.of rfl | exact Fz.nil | exact Fz.emp | (apply Fz.fnC; assumption) | (apply Fz.sl2; exact rfl; exact (by first | omega | (simp; done) | (simp; omega)); first | exact rfl | exact dt_full (by first | omega | (simp; done) | (simp; omega)) | assumption) | apply Fz.agg | (apply Fz.ptrL; exact rfl; first | exact rfl | assumption) | apply Fz.fnL)); done)) | (apply q_callU; exact rfl; exact rfl; exact rfl; rotate_left; exact eqNil_ro _; rotate_right; focus ((repeat' (first | exact FzL.nil | exact (by assumption : FzC _) _ | refine FzL.cons ?_ ?_ | exact Fz.of rfl | exact Fz.nil | exact Fz.emp | (apply Fz.fnC; assumption) | (apply Fz.sl2; exact rfl; exact (by first | omega | (simp; done) | (simp; omega)); first | exact rfl | exact dt_full (by first | omega | (simp; done) | (simp; omega)) | assumption) | apply Fz.agg | (apply Fz.ptrL; exact rfl; first | exact rfl | assumption) | apply Fz.fnL)); done)) | (apply q_callU; exact rfl; exact rfl; exact rfl; rotate_left; exact markNil_ro 1 _; rotate_right; focus ((repeat' (first | exact FzL.nil | exact (by assumption : FzC _) _ | refine FzL.cons ?_ ?_ | exact Fz.of rfl | exact Fz.nil | exact Fz.emp | (apply Fz.fnC; assumption) | (apply Fz.sl2; exact rfl; exact (by first | omega | (simp; done) | (simp; omega)); first | exact rfl | exact dt_full (by first | omega | (simp; done) | (simp; omega)) | assumption) | apply Fz.agg | (apply Fz.ptrL; exact rfl; first | exact rfl | assumption) | apply Fz.fnL)); done)) | (apply q_callU; exact rfl; exact rfl; exact rfl; rotate_left; exact heldNil_ro 1 (by omega) (by omega) _; rotate_right; focus ((repeat' (first | exact FzL.nil | exact (by assumption : FzC _) _ | refine FzL.cons ?_ ?_ | exact Fz.of rfl | exact Fz.nil | exact Fz.emp | (apply Fz.fnC; assumption) | (apply Fz.sl2; exact rfl; exact (by first | omega | (simp; done) | (simp; omega)); first | exact rfl | exact dt_full (by first | omega | (simp; done) | (simp; omega)) | assumption) | apply Fz.agg | (apply Fz.ptrL; exact rfl; first | exact rfl | assumption) | apply Fz.fnL)); done)) | (apply q_callC; exact rfl; exact rfl; exact rfl; exact markBackhaul_rc _ n ls 1 m1 (by omega) (by omega) _; (focus ((repeat (first | exact trivial | refine ⟨by first | exact rfl | assumption, ?_⟩)); done)); skip)); (try simp only [put, rowsOf, plR, List.all_cons, selE, ovr, setH, del, cellsA, splice, isV, List.nil_append, List.cons_append, List.map_cons, List.map_nil, List.length_cons, List.length_nil, List.set_cons_zero, List.set_cons_succ, List.take_succ_cons, List.take_zero, List.take_nil, List.drop_succ_cons, List.drop_zero, List.drop_nil, List.append_nil, List.all_cons, List.all_nil, Bool.and_true, Bool.true_and, Bool.and_false, Bool.false_and, Nat.reduceAdd, Nat.zero_add, Nat.add_zero, Nat.reduceEqDiff, if_true, if_false, reduceIte]))
    | (show DE _ _ _ _ _ _ _ _ _ _ _ _; first | (apply e_not; exact rfl; exact rfl; exact rfl))
    | (show DE _ _ _ _ _ _ _ _ _ _ _ _; (first | (apply dr_nil; exact trivial) | (apply e_ldap; exact rfl; exact rfl; exact (ty rfl); exact rfl; exact rfl; exact (by first | rfl | assumption | ((try simp only [Nat.zero_add]); refine List.getElem?_set_self ?_; (try simp only [List.length_set]); assumption)); exact rfl; exact rfl) | (apply e_callU; exact rfl; exact rfl; exact rfl; exact FzL.of rfl; exact toBackhaul_ro n ls m1 _; exact rfl) | (apply e_callU; exact rfl; exact rfl; exact rfl; rotate_left; exact eqBackhaul_ro n ls m1 _; exact rfl; rotate_right; focus ((repeat' (first | exact FzL.nil | exact (by assumption : FzC _) _ | refine FzL.cons ?_ ?_ | exact Fz.of rfl | exact Fz.nil | exact Fz.emp | (apply Fz.fnC; assumption) | (apply Fz.sl2; exact rfl; exact (by first | omega | (simp; done) | (simp; omega)); first | exact rfl | exact dt_full (by first | omega | (simp; done) | (simp; omega)) | assumption) | apply Fz.agg | (apply Fz.ptrL; exact rfl; first | exact rfl | assumption) | apply Fz.fnL)); done))); (try simp only [put, rowsOf, plR, List.all_cons, selE, ovr, setH, del, cellsA, splice, isV, List.nil_append, List.cons_append, List.map_cons, List.map_nil, List.length_cons, List.length_nil, List.set_cons_zero, List.set_cons_succ, List.take_succ_cons, List.take_zero, List.take_nil, List.drop_succ_cons, List.drop_zero, List.drop_nil, List.append_nil, List.all_cons, List.all_nil, Bool.and_true, Bool.true_and, Bool.and_false, Bool.false_and, Nat.reduceAdd, Nat.zero_add, Nat.add_zero, Nat.reduceEqDiff, if_true, if_false, reduceIte]))
    | (show AW _ _ _ _ _ _ _ _; first | refine aw_region ?_ | (refine aw_seqk ?_; intro K hK) | (apply aw_cond_f; exact rfl; exact rfl) | (apply aw_cond_f; exact rfl; exact (by assumption)) | refine aw_ret ?_ | refine aw_skip ?_ | refine aw_drawE (id := 10) [0, 0, 2, 7, 15] [1, 1, 1, 1, 0] mixed (by kernel_rfl) ?_)
    | refine thn_n ?_
    | (refine hK _ _ _ ?_; clear hK K))); all_goals (repeat (clear hK K)))
      all_goals exact fin_r (fin_b rfl rfl)
  · have c2 : bkB n ls = false := by simpa using c2
    refine RO.ofv' Try.func8 Try.ntmps8 rfl (goFn_of Try.func8 rfl (by kernel_rfl)) rfl rfl ?_
    ((repeat' (first
    | (show SQ _ _ _ _ _ _ _ _; first | apply sq_nil | (apply q_move; exact rfl; exact rfl) | (apply q_assign; exact rfl; exact rfl) | (apply q_pick_f; exact rfl; exact rfl; exact rfl; exact (by first | assumption | exact rfl)) | (apply q_not; exact rfl; exact rfl) | (apply q_ext; exact rfl; exact rfl; exact rfl) | (apply q_neq; exact rfl; exact rfl; exact rfl) | (apply q_lss; exact rfl; exact rfl; exact rfl) | (apply q_g; exact rfl; exact rfl; exact rfl; exact (by assumption)))
    | (show SQ _ _ _ _ _ _ _ _; (first | (apply q_ldap; exact rfl; exact rfl; exact (ty rfl); exact rfl; exact rfl; exact (by first | rfl | assumption | ((try simp only [Nat.zero_add]); refine List.getElem?_set_self ?_; (try simp only [List.length_set]); assumption)); exact rfl) | (apply q_box; exact rfl; exact rfl; exact rfl) | (apply q_alloc; exact rfl; exact (ty rfl); exact rfl; exact rfl) | (apply q_store; exact rfl; exact rfl; exact (ty rfl); exact rfl; exact (by first | rfl | assumption | ((try simp only [Nat.zero_add]); refine List.getElem?_set_self ?_; (try simp only [List.length_set]); assumption)); exact rfl; exact rfl; exact rfl) | (apply q_callU; exact rfl; exact rfl; exact rfl; exact FzL.of rfl; exact szBackhaul_ro n ls 1048576 hn (by omega) (by omega) _) | (apply q_callU; exact rfl; exact rfl; exact rfl; exact FzL.of rfl; exact toBackhaul_ro n ls m1 _) | (apply q_callU; exact rfl; exact rfl; exact rfl; rotate_left; exact specSpan_bad_ro n ls m1 c2 _; rotate_right; focus ((repeat' (first | exact FzL.nil | exact (by assumption : FzC _) _ | refine FzL.cons ?_ ?_ | exact Fz.of rfl | exact Fz.nil | exact Fz.emp | (apply Fz.fnC; assumption) | (apply Fz.sl2; exact rfl; exact (by first | omega | (simp; done) | (simp; omega)); first | exact rfl | exact dt_full (by first | omega | (simp; done) | (simp; omega)) | assumption) | apply Fz.agg | (apply Fz.ptrL; exact rfl; first | exact rfl | assumption) | apply Fz.fnL)); done)) | (apply q_callU; exact rfl; exact rfl; exact rfl; rotate_left; exact implSpan_bad_ro n ls m1 c2 _; rotate_right; focus ((repeat' (first | exact FzL.nil | exact (by assumption : FzC _) _ | refine FzL.cons ?_ ?_ | exact Fz.of rfl | exact Fz.nil | exact Fz.emp | (apply Fz.fnC; assumption) | (apply Fz.sl2; exact rfl; exact (by first | omega | (simp; done) | (simp; omega)); first | exact rfl | exact dt_full (by first | omega | (simp; done) | (simp; omega)) | assumption) | apply Fz.agg | (apply Fz.ptrL; exact rfl; first | exact rfl | assumption) | apply Fz.fnL)); done)) | (apply q_callU; exact rfl; exact rfl; exact rfl; rotate_left; exact eqNil_ro _; rotate_right; focus ((repeat' (first | exact FzL.nil | exact (by assumption : FzC _) _ | refine FzL.cons ?_ ?_ | exact Fz.of rfl | exact Fz.nil | exact Fz.emp | (apply Fz.fnC; assumption) | (apply Fz.sl2; exact rfl; exact (by first | omega | (simp; done) | (simp; omega)); first | exact rfl | exact dt_full (by first | omega | (simp; done) | (simp; omega)) | assumption) | apply Fz.agg | (apply Fz.ptrL; exact rfl; first | exact rfl | assumption) | apply Fz.fnL)); done)) | (apply q_callU; exact rfl; exact rfl; exact rfl; rotate_left; exact markNil_ro 1 _; rotate_right; focus ((repeat' (first | exact FzL.nil | exact (by assumption : FzC _) _ | refine FzL.cons ?_ ?_ | exact Fz.of rfl | exact Fz.nil | exact Fz.emp | (apply Fz.fnC; assumption) | (apply Fz.sl2; exact rfl; exact (by first | omega | (simp; done) | (simp; omega)); first | exact rfl | exact dt_full (by first | omega | (simp; done) | (simp; omega)) | assumption) | apply Fz.agg | (apply Fz.ptrL; exact rfl; first | exact rfl | assumption) | apply Fz.fnL)); done)) | (apply q_callU; exact rfl; exact rfl; exact rfl; rotate_left; exact heldNil_ro 1 (by omega) (by omega) _; rotate_right; focus ((repeat' (first | exact FzL.nil | exact (by assumption : FzC _) _ | refine FzL.cons ?_ ?_ | exact Fz.of rfl | exact Fz.nil | exact Fz.emp | (apply Fz.fnC; assumption) | (apply Fz.sl2; exact rfl; exact (by first | omega | (simp; done) | (simp; omega)); first | exact rfl | exact dt_full (by first | omega | (simp; done) | (simp; omega)) | assumption) | apply Fz.agg | (apply Fz.ptrL; exact rfl; first | exact rfl | assumption) | apply Fz.fnL)); done)) | (apply q_callC; exact rfl; exact rfl; exact rfl; exact markBackhaul_rc _ n ls 1 m1 (by omega) (by omega) _; (focus ((repeat (first | exact trivial | refine ⟨by first | exact rfl | assumption, ?_⟩)); done)); skip)); (try simp only [put, rowsOf, plR, List.all_cons, selE, ovr, setH, del, cellsA, splice, isV, List.nil_append, List.cons_append, List.map_cons, List.map_nil, List.length_cons, List.length_nil, List.set_cons_zero, List.set_cons_succ, List.take_succ_cons, List.take_zero, List.take_nil, List.drop_succ_cons, List.drop_zero, List.drop_nil, List.append_nil, List.all_cons, List.all_nil, Bool.and_true, Bool.true_and, Bool.and_false, Bool.false_and, Nat.reduceAdd, Nat.zero_add, Nat.add_zero, Nat.reduceEqDiff, if_true, if_false, reduceIte]))
    | (show DE _ _ _ _ _ _ _ _ _ _ _ _; first | (apply e_not; exact rfl; exact rfl; exact rfl))
    | (show DE _ _ _ _ _ _ _ _ _ _ _ _; (first | (apply dr_nil; exact trivial) | (apply e_ldap; exact rfl; exact rfl; exact (ty rfl); exact rfl; exact rfl; exact (by first | rfl | assumption | ((try simp only [Nat.zero_add]); refine List.getElem?_set_self ?_; (try simp only [List.length_set]); assumption)); exact rfl; exact rfl) | (apply e_callU; exact rfl; exact rfl; exact rfl; exact FzL.of rfl; exact toBackhaul_ro n ls m1 _; exact rfl) | (apply e_callU; exact rfl; exact rfl; exact rfl; rotate_left; exact eqBackhaul_ro n ls m1 _; exact rfl; rotate_right; focus ((repeat' (first | exact FzL.nil | exact (by assumption : FzC _) _ | refine FzL.cons ?_ ?_ | exact Fz.of rfl | exact Fz.nil | exact Fz.emp | (apply Fz.fnC; assumption) | (apply Fz.sl2; exact rfl; exact (by first | omega | (simp; done) | (simp; omega)); first | exact rfl | exact dt_full (by first | omega | (simp; done) | (simp; omega)) | assumption) | apply Fz.agg | (apply Fz.ptrL; exact rfl; first | exact rfl | assumption) | apply Fz.fnL)); done))); (try simp only [put, rowsOf, plR, List.all_cons, selE, ovr, setH, del, cellsA, splice, isV, List.nil_append, List.cons_append, List.map_cons, List.map_nil, List.length_cons, List.length_nil, List.set_cons_zero, List.set_cons_succ, List.take_succ_cons, List.take_zero, List.take_nil, List.drop_succ_cons, List.drop_zero, List.drop_nil, List.append_nil, List.all_cons, List.all_nil, Bool.and_true, Bool.true_and, Bool.and_false, Bool.false_and, Nat.reduceAdd, Nat.zero_add, Nat.add_zero, Nat.reduceEqDiff, if_true, if_false, reduceIte]))
    | (show AW _ _ _ _ _ _ _ _; first | refine aw_region ?_ | (refine aw_seqk ?_; intro K hK) | (apply aw_cond_f; exact rfl; exact rfl) | (apply aw_cond_f; exact rfl; exact (by assumption)) | refine aw_ret ?_ | refine aw_skip ?_ | refine aw_drawE (id := 10) [0, 0, 2, 7, 15] [1, 1, 1, 1, 0] mixed (by kernel_rfl) ?_)
    | refine thn_n ?_
    | (refine hK _ _ _ ?_; clear hK K))); all_goals (repeat (clear hK K)))
    all_goals exact fin_r (fin_b rfl rfl)
theorem closeSpan (v : Value) (w : World) (h : Fr.IsBack w v) : Calls Try.prog 8 #[v] w fun r w' => r = .returned (.bool true) ∧ Below w.heap.size w w' := by
  obtain ⟨n, ls, s, rfl, hv, _, _⟩ := h
  exact RO.calls (k := 0) (lawSpan_ro n ls hv.2 0) (K := fun k => k < w.heap.size) (fun _ h => h) (VRs.cons (Fr.back_vr hv) VRs.nil)
end Go.Proofs.Ytglfcaioapdiaaa.Bk
