/- Plain: the laws of the group of squares modulo P, and of its exponents modulo Q. -/
import Derived.Test.YtelikpkekloffaaDoorNum
namespace Gp

/-- the square of a number modulo P. -/
def sq (n : Nat) : Nat := mu 4611686018427377339 (n % 4611686018427377339) (n % 4611686018427377339)

theorem fm_pw {p a q : Nat} (hp : Nt.Fm p) (hq : q = p - 1) (h0 : a ≠ 0) (h : a < p) : pw p a q = 1 := by
  subst hq
  exact hp.2 a (Nat.pos_of_ne_zero h0) h
theorem fermatP {a : Nat} (h0 : a ≠ 0) (h : a < 4611686018427377339) : pw 4611686018427377339 a 4611686018427377338 = 1 :=
  fm_pw Nt.fm_P (by decide) h0 h
theorem fermatQ {a : Nat} (h0 : a ≠ 0) (h : a < 2305843009213688669) : pw 2305843009213688669 a 2305843009213688668 = 1 :=
  fm_pw Nt.fm_Q (by decide) h0 h

theorem pw_zero_base {m k : Nat} (hk : k ≠ 0) : pw m 0 k = 0 := by
  unfold pw; rw [Nat.zero_pow (Nat.pos_of_ne_zero hk), Nat.zero_mod]
theorem pw_two (m a : Nat) : pw m a 2 = mu m a a := by unfold pw mu; rw [Nat.pow_two]

theorem sq_lt (n : Nat) : sq n < 4611686018427377339 := mu_lt (by decide)
theorem sq_zero {n : Nat} (h : n % 4611686018427377339 = 0) : sq n = 0 := by unfold sq; rw [h]; rfl
theorem sq_pw {n : Nat} (h : n % 4611686018427377339 ≠ 0) : pw 4611686018427377339 (sq n) 2305843009213688669 = 1 := by
  unfold sq
  rw [← pw_two, pw_mul]
  exact fermatP h (Nat.mod_lt _ (by decide))
theorem sq_ne {n : Nat} (h : n % 4611686018427377339 ≠ 0) : sq n ≠ 0 := by
  intro h0
  have := sq_pw h
  rw [h0, pw_zero_base (by decide)] at this
  exact absurd this (by decide)
theorem sq_el {n : Nat} (h : n % 4611686018427377339 ≠ 0) : isEl (sq n : Int) = true :=
  isEl_of (Nat.pos_of_ne_zero (sq_ne h)) (sq_lt n) (sq_pw h)

/-- an element, as a natural number. -/
def El (n : Nat) : Prop := 1 ≤ n ∧ n < 4611686018427377339 ∧ pw 4611686018427377339 n 2305843009213688669 = 1
theorem El.is {n : Nat} (h : El n) : isEl (n : Int) = true := isEl_of h.1 h.2.1 h.2.2
theorem El.of {n : Nat} (h : isEl (n : Int) = true) : El n := by
  obtain ⟨m, hm, h1, h2, h3⟩ := isEl_nat h
  obtain rfl : n = m := by omega
  exact ⟨h1, h2, h3⟩
theorem El.mk' {n : Nat} (h2 : n < 4611686018427377339) (h3 : pw 4611686018427377339 n 2305843009213688669 = 1) : El n := by
  refine ⟨Nat.pos_of_ne_zero fun h0 => ?_, h2, h3⟩
  rw [h0, pw_zero_base (by decide)] at h3
  exact absurd h3 (by decide)
theorem El.sq {n : Nat} (h : n % 4611686018427377339 ≠ 0) : El (sq n) := El.mk' (sq_lt n) (sq_pw h)
theorem El.mu {a b : Nat} (ha : El a) (hb : El b) : El (mu 4611686018427377339 a b) := by
  refine El.mk' (mu_lt (by decide)) ?_
  rw [pw_mu, ha.2.2, hb.2.2]; rfl
theorem one_pw {m : Nat} (h : 1 < m) (k : Nat) : pw m 1 k = 1 := by unfold pw; rw [Nat.one_pow, Nat.mod_eq_of_lt h]
theorem El.pw {a : Nat} (ha : El a) (k : Nat) : El (pw 4611686018427377339 a k) := by
  refine El.mk' (pw_lt (by decide)) ?_
  rw [pw_mul, Nat.mul_comm, ← pw_mul, ha.2.2, one_pw (by decide)]
theorem El.inv {a : Nat} (ha : El a) : Gp.mu 4611686018427377339 a (Gp.pw 4611686018427377339 a 2305843009213688668) = 1 := by
  have h := pw_add 4611686018427377339 a 1 2305843009213688668
  rw [pw_one ha.2.1] at h
  rw [h]
  exact ha.2.2
theorem el_one : El 1 := El.of el1
theorem el_four : El 4 := El.of el4

/-! exponents -/
theorem El.expAdd {a : Nat} (ha : El a) (j k : Nat) : Gp.pw 4611686018427377339 a ((j + k) % 2305843009213688669) = Gp.mu 4611686018427377339 (Gp.pw 4611686018427377339 a j) (Gp.pw 4611686018427377339 a k) := by
  rw [pw_mod_exp (by decide) ha.2.2, pw_add]
theorem El.expMul {a : Nat} (ha : El a) (j k : Nat) : Gp.pw 4611686018427377339 a (Gp.mu 2305843009213688669 j k) = Gp.pw 4611686018427377339 (Gp.pw 4611686018427377339 a j) k := by
  unfold Gp.mu
  rw [pw_mod_exp (by decide) ha.2.2, pw_mul]
theorem inv_Q {k : Nat} (h0 : k ≠ 0) (hk : k < 2305843009213688669) : Gp.mu 2305843009213688669 k (Gp.pw 2305843009213688669 k 2305843009213688667) = 1 := by
  have h := pw_add 2305843009213688669 k 1 2305843009213688667
  rw [pw_one hk] at h
  rw [h]
  exact fermatQ h0 hk
theorem El.root {a k : Nat} (ha : El a) (h0 : k ≠ 0) (hk : k < 2305843009213688669) :
    Gp.pw 4611686018427377339 (Gp.pw 4611686018427377339 a k) (Gp.pw 2305843009213688669 k 2305843009213688667) = a := by
  rw [← ha.expMul, inv_Q h0 hk, pw_one ha.2.1]

/-! halves -/
theorem prP : Nt.Pr 4611686018427377339 := Nt.pr_of_fm Nt.fm_P
theorem sqrt_one {y : Nat} (hy : y < 4611686018427377339) (h : mu 4611686018427377339 y y = 1) : y = 1 ∨ y = 4611686018427377338 := by
  have h0 : y ≠ 0 := by intro h0; rw [h0] at h; exact absurd h (by decide)
  have hd : 4611686018427377339 ∣ (y - 1) * (y + 1) := by
    have e : (y - 1) * (y + 1) + 1 = y * y := by
      obtain ⟨z, rfl⟩ : ∃ z, y = z + 1 := ⟨y - 1, by omega⟩
      rw [Nat.add_sub_cancel]
      simp only [Nat.mul_add, Nat.add_mul, Nat.mul_one, Nat.one_mul]
      omega
    unfold mu at h
    rw [← e] at h
    generalize (y - 1) * (y + 1) = t at *
    omega
  by_cases h1 : 4611686018427377339 ∣ (y + 1)
  · obtain ⟨c, hc⟩ := h1
    right
    omega
  · have hc := prP.2 _ h1
    have h2 : 4611686018427377339 ∣ (y - 1) := Nat.Coprime.dvd_of_dvd_mul_right (Nat.Coprime.symm hc) hd
    obtain ⟨c, hc⟩ := h2
    left
    omega
theorem neg_mu {a z : Nat} (ha : a ≤ 4611686018427377339) : (mu 4611686018427377339 z (4611686018427377339 - a) + mu 4611686018427377339 z a) % 4611686018427377339 = 0 := by
  unfold mu
  rw [← Nat.add_mod, ← Nat.mul_add, Nat.sub_add_cancel ha, Nat.mul_mod_left]
theorem neg_sq {a : Nat} (ha : a ≤ 4611686018427377339) : mu 4611686018427377339 (4611686018427377339 - a) (4611686018427377339 - a) = mu 4611686018427377339 a a := by
  have h1 := neg_mu (z := 4611686018427377339 - a) ha
  have h2 := neg_mu (z := a) ha
  rw [mu_comm _ (4611686018427377339 - a) a] at h1
  have l1 : mu 4611686018427377339 (4611686018427377339 - a) (4611686018427377339 - a) < 4611686018427377339 := mu_lt (by decide)
  have l2 : mu 4611686018427377339 a a < 4611686018427377339 := mu_lt (by decide)
  have l3 : mu 4611686018427377339 a (4611686018427377339 - a) < 4611686018427377339 := mu_lt (by decide)
  omega
theorem halves {a : Nat} (h0 : a ≠ 0) (h : a < 4611686018427377339) :
    (pw 4611686018427377339 a 2305843009213688669 = 1 ∧ pw 4611686018427377339 (4611686018427377339 - a) 2305843009213688669 ≠ 1) ∨
    (pw 4611686018427377339 a 2305843009213688669 ≠ 1 ∧ pw 4611686018427377339 (4611686018427377339 - a) 2305843009213688669 = 1) := by
  have hq : (2305843009213688669 : Nat) = 2 * 1152921504606844334 + 1 := by decide
  have hs : pw 4611686018427377339 (4611686018427377339 - a) (2 * 1152921504606844334) = pw 4611686018427377339 a (2 * 1152921504606844334) := by
    rw [← pw_mul, ← pw_mul, pw_two, pw_two, neg_sq (Nat.le_of_lt h)]
  have e1 : pw 4611686018427377339 a 2305843009213688669 = mu 4611686018427377339 (pw 4611686018427377339 a (2 * 1152921504606844334)) a := by
    conv => lhs; rw [hq]
    rw [← pw_add, pw_one h]
  have e2 : pw 4611686018427377339 (4611686018427377339 - a) 2305843009213688669 = mu 4611686018427377339 (pw 4611686018427377339 a (2 * 1152921504606844334)) (4611686018427377339 - a) := by
    conv => lhs; rw [hq]
    rw [← pw_add, hs, pw_one (by omega)]
  have hn := neg_mu (z := pw 4611686018427377339 a (2 * 1152921504606844334)) (Nat.le_of_lt h)
  rw [← e1, ← e2] at hn
  have hy : mu 4611686018427377339 (pw 4611686018427377339 a 2305843009213688669) (pw 4611686018427377339 a 2305843009213688669) = 1 := by
    rw [pw_add]; exact fermatP h0 h
  have l1 : pw 4611686018427377339 a 2305843009213688669 < 4611686018427377339 := pw_lt (by decide)
  have l2 : pw 4611686018427377339 (4611686018427377339 - a) 2305843009213688669 < 4611686018427377339 := pw_lt (by decide)
  have hc := sqrt_one l1 hy
  clear e1 e2 hs hq hy
  generalize pw 4611686018427377339 a 2305843009213688669 = y at *
  generalize pw 4611686018427377339 (4611686018427377339 - a) 2305843009213688669 = z at *
  omega
end Gp
