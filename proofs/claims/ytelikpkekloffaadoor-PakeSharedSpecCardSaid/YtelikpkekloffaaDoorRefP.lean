/- The reference's sum, Product and Power of chapter 4, walked: sums, products and powers modulo m; the world stays. -/
import Derived.Test.YtelikpkekloffaaDoorGrp
import Derived.Test.YtelikpkekloffaaDoorRows
import Derived.WalkKit
import Derived.WalkSpells
import Derived.WalkLawsBesides
import Derived.Lib.Hide
import Derived.Deep.LoopGhost
namespace Go.Proofs.YtelikpkekloffaaDoor
open Go.RowKit

set_option maxHeartbeats 1000000 in
theorem rsum_any (a b m : Nat) (hm : m ≤ 4611686018427387904) (ha : a < m) (hb : b < m) (w : World) :
    Calls Tryd.prog 101 #[.int .i64 a, .int .i64 b, .int .i64 m] w fun e w' => e = .returned (.int .i64 ((a + b) % m : Nat)) ∧ w' = w := by
  have c1 : (m : Int) ≤ 4611686018427387904 := by omega
  have c2 : (a : Int) < m := by omega
  have c3 : (b : Int) < m := by omega
  by_cases h : m ≤ a + b
  · have e : (((a + b) % m : Nat) : Int) = (a : Int) + b - m := by
      rw [Nat.mod_eq_sub_mod h, Nat.mod_eq_of_lt (by omega)]; omega
    have E := Lib.hid e
    rw [E.out]
    have t1 : decide ((m : Int) ≤ (a : Int) + b) = true := by rw [decide_eq_true_eq]; omega
    clear e h hm ha hb
    go_enter Tryd.func101, Tryd.ntmps101
    go_wp2_with fail
    go_ret
    exact ⟨rfl, rfl⟩
  · have e : (((a + b) % m : Nat) : Int) = (a : Int) + b := by
      rw [Nat.mod_eq_of_lt (by omega)]; omega
    have E := Lib.hid e
    rw [E.out]
    have t1 : decide ((m : Int) ≤ (a : Int) + b) = false := by rw [decide_eq_false_iff_not]; omega
    clear e h hm ha hb
    go_enter Tryd.func101, Tryd.ntmps101
    go_wp2_with fail
    go_ret
    exact ⟨rfl, rfl⟩

theorem prod_odd {m x y c h : Nat} (hy : y = 2 * h + 1) : ((c + x) % m + (x + x) % m * h) % m = (c + x * y) % m := by
  subst hy
  rw [Nat.add_mod, Nat.mod_mod, Nat.mod_mul_mod, ← Nat.add_mod]
  congr 1
  rw [Nat.mul_add, Nat.mul_one, Nat.add_mul, ← Nat.two_mul, Nat.mul_left_comm]
  omega
theorem prod_even {m x y c h : Nat} (hy : y = 2 * h) : (c + (x + x) % m * h) % m = (c + x * y) % m := by
  subst hy
  rw [Nat.add_mod, Nat.mod_mul_mod, ← Nat.add_mod]
  congr 1
  rw [Nat.add_mul, ← Nat.two_mul, Nat.mul_left_comm]

set_option maxRecDepth 100000 in
set_option maxHeartbeats 1000000 in
theorem product_any (a b m : Nat) (hm : m ≤ 4611686018427387904) (ha : a < m) (hb : b < 9223372036854775808) (w : World) :
    Calls Tryd.prog 69 #[.int .i64 a, .int .i64 b, .int .i64 m] w fun e w' => e = .returned (.int .i64 (Gp.mu m a b : Nat)) ∧ w' = w := by
  have HM := Lib.hid hm
  have HA := Lib.hid ha
  have HB := Lib.hid hb
  clear hm ha hb
  go_enter Tryd.func69, Tryd.ntmps69
  go_wp2_with fail
  go_loopg [0, 1, 7] b (fun g s0 s1 s7 wr => wr = w ∧ ∃ x y c : Nat, y = g ∧ s0 = .int .i64 x ∧ s1 = .int .i64 y ∧ s7 = .int .i64 c ∧ Hid (x < m ∧ c < m ∧ y < 9223372036854775808 ∧ (c + x * y) % m = a * b % m))
  case atStart => exact ⟨rfl, a, b, 0, rfl, rfl, rfl, rfl, Lib.hid ⟨HA.out, by have := HA.out; omega, HB.out, by rw [Nat.zero_add]⟩⟩
  case round =>
    obtain ⟨rfl, x, y, c, rfl, rfl, rfl, rfl, hr⟩ := hrel
    obtain ⟨h, hh⟩ : ∃ h, h = y / 2 := ⟨_, rfl⟩
    have e2 : (y : Int) / 2 = (h : Int) := by omega
    have S1 := Lib.hid (fun w => rsum_any c x m HM.out hr.out.2.1 hr.out.1 w)
    have S2 := Lib.hid (fun w => rsum_any x x m HM.out hr.out.1 hr.out.1 w)
    have L1 : (c + x) % m < m := Nat.mod_lt _ (by have := hr.out.1; omega)
    have L2 : (x + x) % m < m := Nat.mod_lt _ (by have := hr.out.1; omega)
    have bh : h < 9223372036854775808 := by have := hr.out.2.2.1; omega
    have bm : h < y ∨ y = 0 := by omega
    have BND := Lib.hid (show _ ∧ _ ∧ _ ∧ _ from ⟨L1, L2, bh, bm⟩)
    have by' : (y : Int) < 9223372036854775808 := by have := hr.out.2.2.1; omega
    by_cases hy : y = 0
    · obtain rfl := hy
      have hfin : c = Gp.mu m a b := by
        have := hr.out.2.2.2
        rw [Nat.mul_zero, Nat.add_zero, Nat.mod_eq_of_lt hr.out.2.1] at this
        exact this
      have HF := Lib.hid hfin
      clear hfin L1 L2 bh bm hh e2
      go_wp2_with fail
      go_ret
      exact ⟨by rw [HF.out]; rfl, rfl⟩
    · have t0 : decide (0 < y) = true := by rw [decide_eq_true_eq]; omega
      have t0' : decide (0 < (y : Int)) = true := by rw [decide_eq_true_eq]; omega
      by_cases hp : y % 2 = 1
      · have t1 : ((y : Int) % 2 == 1) = true := by rw [beq_iff_eq]; omega
        have k := prod_odd (m := m) (x := x) (y := y) (c := c) (h := h) (by omega)
        have K := Lib.hid k
        clear k L1 L2 bh bm hh hy hp
        go_wp2_with fail
        refine (S1.out _).mono ?_
        rintro e w1 ⟨rfl, rfl⟩
        go_wp2_with fail
        refine (S2.out _).mono ?_
        rintro e w1 ⟨rfl, rfl⟩
        go_wp2_with fail
        go_roundg h
        case rel => exact ⟨rfl, (x + x) % m, h, (c + x) % m, rfl, rfl, rfl, rfl, Lib.hid ⟨BND.out.2.1, BND.out.1, BND.out.2.2.1, by rw [K.out]; exact hr.out.2.2.2⟩⟩
        case measure => have := BND.out.2.2.2; simp at t0; omega
      · have t1 : ((y : Int) % 2 == 1) = false := by rw [beq_eq_false_iff_ne]; omega
        have k := prod_even (m := m) (x := x) (y := y) (c := c) (h := h) (by omega)
        have K := Lib.hid k
        clear k L1 L2 bh bm hh hy hp
        go_wp2_with fail
        refine (S2.out _).mono ?_
        rintro e w1 ⟨rfl, rfl⟩
        go_wp2_with fail
        go_roundg h
        case rel => exact ⟨rfl, (x + x) % m, h, c, rfl, rfl, rfl, rfl, Lib.hid ⟨BND.out.2.1, hr.out.2.1, BND.out.2.2.1, by rw [K.out]; exact hr.out.2.2.2⟩⟩
        case measure => have := BND.out.2.2.2; simp at t0; omega

theorem pow_odd {m x y c h : Nat} (hy : y = 2 * h + 1) : Gp.mu m (Gp.mu m c x) (Gp.pw m (Gp.mu m x x) h) = Gp.mu m c (Gp.pw m x y) := by
  subst hy
  rw [Gp.mu_assoc, Gp.pw_mu, Gp.pw_add, ← Nat.two_mul]
  congr 1
  unfold Gp.mu Gp.pw
  rw [Nat.mul_mod_mod, Nat.pow_succ, Nat.mul_comm]
theorem pow_even {m x y c h : Nat} (hy : y = 2 * h) : Gp.mu m c (Gp.pw m (Gp.mu m x x) h) = Gp.mu m c (Gp.pw m x y) := by
  subst hy
  rw [Gp.pw_mu, Gp.pw_add, ← Nat.two_mul]

theorem product_P (a b : Nat) (ha : a < 4611686018427377339) (hb : b < 9223372036854775808) (w : World) :
    Calls Tryd.prog 69 #[.int .i64 a, .int .i64 b, .int .i64 4611686018427377339] w fun e w' => e = .returned (.int .i64 (Gp.mu 4611686018427377339 a b : Nat)) ∧ w' = w :=
  product_any a b 4611686018427377339 (by decide) ha hb w

set_option maxRecDepth 100000 in
set_option maxHeartbeats 1000000 in
theorem rpower_any (a k : Nat) (ha : a < 4611686018427377339) (hk : k < 9223372036854775808) (w : World) :
    Calls Tryd.prog 102 #[.int .i64 a, .int .i64 k] w fun e w' => e = .returned (.int .i64 (Gp.pw 4611686018427377339 a k : Nat)) ∧ w' = w := by
  have HA := Lib.hid ha
  have HK := Lib.hid hk
  obtain ⟨r, hr⟩ : ∃ r, r = Gp.pw 4611686018427377339 a k := ⟨_, rfl⟩
  rw [← hr]
  have hone : Gp.mu 4611686018427377339 1 (Gp.pw 4611686018427377339 a k) = r := by rw [hr, Gp.one_mu (Gp.pw_lt (by decide))]
  have HR := Lib.hid hone
  clear ha hk hr hone
  go_enter Tryd.func102, Tryd.ntmps102
  go_wp2_with fail
  go_loopg [0, 1, 5] k (fun g s0 s1 s5 wr => wr = w ∧ ∃ x y c : Nat, y = g ∧ s0 = .int .i64 x ∧ s1 = .int .i64 y ∧ s5 = .int .i64 c ∧ Hid (x < 4611686018427377339 ∧ c < 4611686018427377339 ∧ y < 9223372036854775808 ∧ Gp.mu 4611686018427377339 c (Gp.pw 4611686018427377339 x y) = r))
  case atStart => exact ⟨rfl, a, k, 1, rfl, rfl, rfl, rfl, Lib.hid ⟨HA.out, by decide, HK.out, HR.out⟩⟩
  case round =>
    obtain ⟨rfl, x, y, c, rfl, rfl, rfl, rfl, hr⟩ := hrel
    obtain ⟨h, hh⟩ : ∃ h, h = y / 2 := ⟨_, rfl⟩
    have e2 : (y : Int) / 2 = (h : Int) := by omega
    have S1 := Lib.hid (fun w => product_P c x hr.out.2.1 (by have := hr.out.1; omega) w)
    have S2 := Lib.hid (fun w => product_P x x hr.out.1 (by have := hr.out.1; omega) w)
    have L1 : Gp.mu 4611686018427377339 c x < 4611686018427377339 := Gp.mu_lt (by decide)
    have L2 : Gp.mu 4611686018427377339 x x < 4611686018427377339 := Gp.mu_lt (by decide)
    have bh : h < 9223372036854775808 := by have := hr.out.2.2.1; omega
    have bm : h < y ∨ y = 0 := by omega
    have BND := Lib.hid (show _ ∧ _ ∧ _ ∧ _ from ⟨L1, L2, bh, bm⟩)
    have by' : (y : Int) < 9223372036854775808 := by have := hr.out.2.2.1; omega
    by_cases hy : y = 0
    · obtain rfl := hy
      have hfin : c = r := by
        have := hr.out.2.2.2
        rw [Gp.pw_zero (by decide), Gp.mu_one hr.out.2.1] at this
        exact this
      have HF := Lib.hid hfin
      clear hfin L1 L2 bh bm hh e2
      go_wp2_with fail
      go_ret
      exact ⟨by rw [HF.out]; rfl, rfl⟩
    · have t0 : decide (0 < y) = true := by rw [decide_eq_true_eq]; omega
      have t0' : decide (0 < (y : Int)) = true := by rw [decide_eq_true_eq]; omega
      by_cases hp : y % 2 = 1
      · have t1 : ((y : Int) % 2 == 1) = true := by rw [beq_iff_eq]; omega
        have k := pow_odd (m := 4611686018427377339) (x := x) (y := y) (c := c) (h := h) (by omega)
        have K := Lib.hid k
        clear k L1 L2 bh bm hh hy hp
        go_wp2_with fail
        refine (S1.out _).mono ?_
        rintro e w1 ⟨rfl, rfl⟩
        go_wp2_with fail
        refine (S2.out _).mono ?_
        rintro e w1 ⟨rfl, rfl⟩
        go_wp2_with fail
        go_roundg h
        case rel => exact ⟨rfl, Gp.mu 4611686018427377339 x x, h, Gp.mu 4611686018427377339 c x, rfl, rfl, rfl, rfl, Lib.hid ⟨BND.out.2.1, BND.out.1, BND.out.2.2.1, by rw [K.out]; exact hr.out.2.2.2⟩⟩
        case measure => have := BND.out.2.2.2; simp at t0; omega
      · have t1 : ((y : Int) % 2 == 1) = false := by rw [beq_eq_false_iff_ne]; omega
        have k := pow_even (m := 4611686018427377339) (x := x) (y := y) (c := c) (h := h) (by omega)
        have K := Lib.hid k
        clear k L1 L2 bh bm hh hy hp
        go_wp2_with fail
        refine (S2.out _).mono ?_
        rintro e w1 ⟨rfl, rfl⟩
        go_wp2_with fail
        go_roundg h
        case rel => exact ⟨rfl, Gp.mu 4611686018427377339 x x, h, c, rfl, rfl, rfl, rfl, Lib.hid ⟨BND.out.2.1, hr.out.2.1, BND.out.2.2.1, by rw [K.out]; exact hr.out.2.2.2⟩⟩
        case measure => have := BND.out.2.2.2; simp at t0; omega
end Go.Proofs.YtelikpkekloffaaDoor
