/-
  The law FnErlang: the walk.
-/
import Derived.Test.YtkogkkbiocejkaaErlMath
import Derived.Test.YtkogkkbiocejkaaR8
namespace Go.Proofs.Ytkogkkbiocejkaa.El
open Go.RowKit Go.Proofs.Ytkogkkbiocejkaa.Mt Go.Proofs.Ytkogkkbiocejkaa.Wk Go.Proofs.Ytkogkkbiocejkaa.Mm Go.Proofs.Ytkogkkbiocejkaa.Er Go.Proofs.Ytkogkkbiocejkaa.Lo Go.Proofs.Ytkogkkbiocejkaa.R8 Go.Proofs.Ytkogkkbiocejkaa.Em

def Two (f : FuncId) (x y a b : Int) : Prop := ∀ w : World, Calls Try.prog f #[.int .i64 x, .int .i64 y] w fun e w' => e = .returned (.tuple #[.int .i64 a, .int .i64 b]) ∧ GB w w'
theorem two_of {f : FuncId} {x y a b : Int} {v : Int × Int} (hv : v = (a, b)) (h : ∀ w : World, Calls Try.prog f #[.int .i64 x, .int .i64 y] w fun e w' => e = .returned (.tuple #[.int .i64 v.1, .int .i64 v.2]) ∧ ∃ n, w' = w.drewN n) : Two f x y a b := by
  intro w
  subst hv
  exact (h w).mono fun _ _ ⟨he, n, hn⟩ => ⟨he, by rw [hn]; exact (GB.refl _).drewN n⟩
theorem vB_ok (load ch : Int) (h0 : 0 ≤ load) (h1 : load ≤ 200000000) (c0 : 0 ≤ ch) (c1 : ch ≤ 200) : vB load ch = (erl load ch.toNat, 0) := by
  unfold vB; rw [if_pos ⟨inB_mk h0 h1, inB_mk c0 c1⟩]

set_option maxRecDepth 100000 in
set_option maxHeartbeats 4000000 in
theorem walk (a : Option Addr) (n cap : Nat) (z : List Int) (w : World) (w0 : IsB w a n cap z) :
    Calls Try.prog 7 #[.slice a n cap] w fun e w' => e = .returned (.bool true) ∧ Below w.heap.size w w' := by
  obtain ⟨hB, hm⟩ := Bs.of w0
  clear w0
  by_cases hn : n ≤ 1048576
  · obtain ⟨L, l0, l1, C1⟩ : ∃ L, 0 ≤ L ∧ L < 30000 ∧ Hid (wide8 z n 0 30000 = L) := ⟨_, (wide8_bd z n 0 30000 (by omega)).1, (wide8_bd z n 0 30000 (by omega)).2, rfl⟩
    obtain ⟨N, n0, n1, C2⟩ : ∃ N, 0 ≤ N ∧ N < 40 ∧ Hid (at8 z n 2 40 = N) := ⟨_, (at8_bd z n 2 40 (by omega)).1, (at8_bd z n 2 40 (by omega)).2, rfl⟩
    obtain ⟨D, d0, d1, C3⟩ : ∃ D, 0 ≤ D ∧ D < 256 ∧ Hid (at8 z n 3 256 = D) := ⟨_, (at8_bd z n 3 256 (by omega)).1, (at8_bd z n 3 256 (by omega)).2, rfl⟩
    obtain ⟨G, g0, g1, C4⟩ : ∃ G, 0 ≤ G ∧ G < 2000 ∧ Hid (wide8 z n 4 2000 = G) := ⟨_, (wide8_bd z n 4 2000 (by omega)).1, (wide8_bd z n 4 2000 (by omega)).2, rfl⟩
    obtain ⟨m, m0, mN, mO, mx, my⟩ := ch_of L (100 * (1 + G)) l0 l1 (by omega)
    obtain ⟨k, hk, most, hmost, t0, t1, tz⟩ := load_of L (100 * (1 + G)) m l0 l1 m0 (by omega) (by omega) mx
    obtain ⟨wv, hwv, w1, w2⟩ := vC_of L N l0 l1 n0 n1
    obtain ⟨q0, q1⟩ := erl_bd (1000 * L) (by omega) (by omega) N.toNat
    have q2 := erl_fall (1000 * L) (by omega) (by omega) N.toNat
    have q3 := erl_mono (1000 * L) (1000 * L + 1000 * D) (by omega) (by omega) (by omega) N.toNat
    obtain ⟨_, _, u0, u1⟩ := car_bd (1000 * L) N.toNat (by omega) (by omega)
    have E1 : Hid (Two 18 (1000 * L) N (erl (1000 * L) N.toNat) 0) := two_of (vB_ok _ _ (by omega) (by omega) (by omega) (by omega)) (ErlangB_impl _ _)
    have E2 : Hid (Two 18 (1000 * L) (N + 1) (erl (1000 * L) (N.toNat + 1)) 0) := two_of (by rw [vB_ok _ _ (by omega) (by omega) (by omega) (by omega), show (N + 1).toNat = N.toNat + 1 from by omega]) (ErlangB_impl _ _)
    have E3 : Hid (Two 18 (1000 * L + 1000 * D) N (erl (1000 * L + 1000 * D) N.toNat) 0) := two_of (vB_ok _ _ (by omega) (by omega) (by omega) (by omega)) (ErlangB_impl _ _)
    have E4 : Hid (Two 25 (1000 * L) N wv 0) := two_of hwv (ErlangC_impl _ _)
    have E5 : Hid (Two 26 (1000 * L) (100 * (1 + G)) m 0) := two_of (by unfold vFor; rw [if_pos ⟨inB_mk (by omega) (by omega), inB_mk (by omega) (by omega)⟩, if_pos mO, mN]) (ChannelsFor_impl _ _)
    have E6 : Hid (Two 18 (1000 * L) m (erl (1000 * L) m) 0) := two_of (by rw [vB_ok _ _ (by omega) (by omega) (by omega) (by omega), Int.toNat_natCast]) (ErlangB_impl _ _)
    have E8 : Hid (Two 27 m (100 * (1 + G)) most 0) := fun W => (impl_any _ _ k W (by rw [Int.toNat_natCast]; exact hk)).mono fun _ _ ⟨he, hg⟩ => ⟨by rw [he, hmost], hg⟩
    have E9 : Hid (Two 18 most m (erl most m) 0) := two_of (by rw [vB_ok _ _ (by omega) (by omega) (by omega) (by omega), Int.toNat_natCast]) (ErlangB_impl _ _)
    have E10 : Hid (Two 20 (1000 * L) N (car (1000 * L) N.toNat) 0) := two_of (by unfold vCar; rw [if_pos ⟨inB_mk (by omega) (by omega), inB_mk (by omega) (by omega)⟩]) (CarriedLoad_impl _ _)
    have E11 : Hid (Two 22 (1000 * L) N (1000 * L - car (1000 * L) N.toNat) 0) := two_of (by unfold vOver; rw [if_pos ⟨inB_mk (by omega) (by omega), inB_mk (by omega) (by omega)⟩]) (OverflowLoad_impl _ _)
    have E7 : 0 < m → Two 18 (1000 * L) ((m : Int) - 1) (erl (1000 * L) (m - 1)) 0 ∧ 100 * (1 + G) < erl (1000 * L) (m - 1) := fun h => ⟨two_of (by rw [vB_ok _ _ (by omega) (by omega) (by omega) (by omega), show ((m : Int) - 1).toNat = m - 1 from by omega]) (ErlangB_impl _ _), my _ (by omega)⟩
    clear hk hmost hwv mN mO my
    generalize erl (1000 * L) N.toNat = ea at *
    generalize erl (1000 * L) (N.toNat + 1) = ec at *
    generalize erl (1000 * L + 1000 * D) N.toNat = ee at *
    generalize erl (1000 * L) m = ex at *
    generalize erl most m = ez at *
    generalize car (1000 * L) N.toNat = cr at *
    generalize erl (1000 * L) (m - 1) = ey at *
    have E7' := Lib.hid E7
    clear E7
    go_enter Try.func7, Try.ntmps7
    go_wp2_with fail
    refine (r8Wide_any _ _ _ _ z _ _ _ hm (by omega) (by omega) (by omega) hB).mono ?_
    rintro e w' ⟨rfl, rfl⟩
    rw [C1.out]
    go_wp2_with fail
    refine (r8At_any _ _ _ _ z _ _ _ hm (by omega) hB).mono ?_
    rintro e w' ⟨rfl, rfl⟩
    rw [C2.out]
    go_wp2_with fail
    refine (E1.out _).mono ?_
    rintro e w1 ⟨rfl, gb1⟩
    go_wp2_with fail
    refine (E2.out _).mono ?_
    rintro e w2 ⟨rfl, gb2⟩
    have hb2 := (gb1.trans gb2).2
    go_wp2_with fail
    refine (r8At_any _ _ _ _ z _ _ _ hm (by omega) (hB.kept hb2)).mono ?_
    rintro e w' ⟨rfl, rfl⟩
    rw [C3.out]
    go_wp2_with fail
    refine (E3.out _).mono ?_
    rintro e w3 ⟨rfl, gb3⟩
    go_wp2_with fail
    refine (E4.out _).mono ?_
    rintro e w4 ⟨rfl, gb4⟩
    have gb04 := (gb1.trans gb2).trans (gb3.trans gb4)
    clear gb1 gb2 gb3 gb4 hb2
    have f1 : decide (ea < 0) = false := by simp; omega
    have f2 : decide ((1000000 : Int) < ea) = false := by simp; omega
    have f3 : decide (ea < ec) = false := by simp; omega
    have f4 : decide (ee < ea) = false := by simp; omega
    have f5 : decide (wv < ea) = false := by simp; omega
    have f6 : decide ((1000000 : Int) < wv) = false := by simp; omega
    go_wp2_with fail
    refine (r8Wide_any _ _ _ _ z _ _ _ hm (by omega) (by omega) (by omega) (hB.kept gb04.2)).mono ?_
    rintro e w' ⟨rfl, rfl⟩
    rw [C4.out]
    clear f1 f2 f3 f4 f5 f6
    go_wp2_with fail
    refine (E5.out _).mono ?_
    rintro e w5 ⟨rfl, gb5⟩
    go_wp2_with fail
    refine (E6.out _).mono ?_
    rintro e w6 ⟨rfl, gb6⟩
    have gb06 := gb04.trans (gb5.trans gb6)
    clear gb04 gb5 gb6
    have f7 : decide (100 * (1 + G) < ex) = false := by simp; omega
    by_cases hm0 : 0 < m
    · obtain ⟨E7, hy⟩ := E7'.out hm0
      have E7 := Lib.hid E7
      have f8 : decide (ey ≤ 100 * (1 + G)) = false := by simp; omega
      go_wp2_with fail
      refine (E7.out _).mono ?_
      rintro e w7 ⟨rfl, gb7⟩
      have gb07 := gb06.trans gb7
      clear gb06 gb7
      clear f7
      go_wp2_with fail
      refine (E8.out _).mono ?_
      rintro e w8 ⟨rfl, gb8⟩
      go_wp2_with fail
      refine (E9.out _).mono ?_
      rintro e w9 ⟨rfl, gb9⟩
      have f9 : decide (most < 1000 * L) = false := by simp; omega
      have f10 : decide (100 * (1 + G) < ez) = false := by simp; omega
      go_wp2_with fail
      refine (E10.out _).mono ?_
      rintro e w10 ⟨rfl, gb10⟩
      go_wp2_with fail
      refine (E11.out _).mono ?_
      rintro e w11 ⟨rfl, gb11⟩
      have gbx := gb07.trans ((gb8.trans gb9).trans (gb10.trans gb11))
      clear f9 f10 gb8 gb9 gb10 gb11 gb07
      have f11 : (cr + (1000 * L - cr) == 1000 * L) = true := by simp; omega
      have f12 : decide (0 ≤ cr) = true := by simp; omega
      have f13 : decide (0 ≤ 1000 * L - cr) = true := by simp; omega
      go_wp2_with fail
      go_ret
      exact ⟨rfl, gbx.2⟩
    · clear E7'
      go_wp2_with fail
      refine (E8.out _).mono ?_
      rintro e w8 ⟨rfl, gb8⟩
      go_wp2_with fail
      refine (E9.out _).mono ?_
      rintro e w9 ⟨rfl, gb9⟩
      have f9 : decide (most < 1000 * L) = false := by simp; omega
      have f10 : decide (100 * (1 + G) < ez) = false := by simp; omega
      go_wp2_with fail
      refine (E10.out _).mono ?_
      rintro e w10 ⟨rfl, gb10⟩
      go_wp2_with fail
      refine (E11.out _).mono ?_
      rintro e w11 ⟨rfl, gb11⟩
      have gbx := gb06.trans ((gb8.trans gb9).trans (gb10.trans gb11))
      clear f9 f10 gb8 gb9 gb10 gb11 gb06
      have f11 : (cr + (1000 * L - cr) == 1000 * L) = true := by simp; omega
      have f12 : decide (0 ≤ cr) = true := by simp; omega
      have f13 : decide (0 ≤ 1000 * L - cr) = true := by simp; omega
      go_wp2_with fail
      go_ret
      exact ⟨rfl, gbx.2⟩
  · go_enter Try.func7, Try.ntmps7
    go_wp2
    go_ret
    exact ⟨rfl, Below.refl _ _⟩

end Go.Proofs.Ytkogkkbiocejkaa.El
