/- Plain arithmetic under the division of 128 bits by 64 bits: one digit of 32 bits. -/
namespace Dv

/-- the next digit: the quotient of u * 2^32 + d by y. -/
def dig (u d y : Nat) : Nat := (u * 4294967296 + d) / y

theorem dig_lt {u d y : Nat} (hu : u < y) (hd : d < 4294967296) : dig u d y < 4294967296 := by
  unfold dig
  rw [Nat.div_lt_iff_lt_mul (by omega)]
  have : (u + 1) * 4294967296 ≤ y * 4294967296 := Nat.mul_le_mul_right _ hu
  rw [Nat.mul_comm 4294967296 y]
  omega

theorem le_dig {u d y q : Nat} (hy : 0 < y) : q ≤ dig u d y ↔ q * y ≤ u * 4294967296 + d := by
  unfold dig; exact Nat.le_div_iff_mul_le hy

/-- q * y in halves. -/
theorem mul_split (q a b : Nat) : q * (a * 4294967296 + b) = q * a * 4294967296 + q * b := by
  rw [Nat.mul_add, Nat.mul_assoc]

theorem first_le {u d a b : Nat} (hb : b < 4294967296) (ha : 2147483648 ≤ a) (hu : u < a * 4294967296 + b) (hd : d < 4294967296) :
    dig u d (a * 4294967296 + b) ≤ u / a ∧ u / a ≤ 4294967297 ∧ u % a + u / a * a = u ∧ u % a < a := by
  have h3 : u % a + u / a * a = u := by rw [Nat.mul_comm]; exact Nat.mod_add_div u a
  have h4 : u % a < a := Nat.mod_lt _ (by omega)
  refine ⟨?_, ?_, h3, h4⟩
  · rw [Nat.le_div_iff_mul_le (by omega)]
    have h1 := (le_dig (u := u) (d := d) (y := a * 4294967296 + b) (q := dig u d (a * 4294967296 + b)) (by omega)).1 (Nat.le_refl _)
    rw [mul_split] at h1
    generalize dig u d (a * 4294967296 + b) * a = z at *
    generalize dig u d (a * 4294967296 + b) * b = z2 at *
    omega
  · have : u < 4294967298 * a := by omega
    have := (Nat.div_lt_iff_lt_mul (x := u) (y := 4294967298) (k := a) (by omega)).2 this
    omega

theorem test_yes {u d a b q r : Nat} (hr : r + q * a = u) (hu : u < a * 4294967296 + b) (hd : d < 4294967296)
    (h : 4294967296 ≤ q ∨ 4294967296 * r + d < q * b) : dig u d (a * 4294967296 + b) < q := by
  rcases h with h | h
  · have := dig_lt hu hd; omega
  · apply Decidable.byContradiction
    intro hn
    have h1 := (le_dig (u := u) (d := d) (y := a * 4294967296 + b) (q := q) (by omega)).1 (by omega)
    rw [mul_split] at h1
    subst hr
    generalize q * a = z at *
    generalize q * b = z2 at *
    omega

theorem test_no {u d a b q r : Nat} (hr : r + q * a = u) (hu : u < a * 4294967296 + b)
    (h : q * b ≤ 4294967296 * r + d) : q ≤ dig u d (a * 4294967296 + b) := by
  rw [le_dig (by omega), mul_split]
  subst hr
  generalize q * a = z at *
  generalize q * b = z2 at *
  omega

theorem big_rest {u d a b q r : Nat} (hr : r + q * a = u) (hu : u < a * 4294967296 + b) (hb : b < 4294967296) (hq : q ≤ 4294967296) (h : 4294967296 ≤ r) :
    q ≤ dig u d (a * 4294967296 + b) := by
  refine test_no hr hu ?_
  have := Nat.mul_le_mul hq (show b ≤ 4294967295 by omega)
  omega

theorem mul_lo {q b : Nat} (hq : q ≤ 4294967297) (hb : b < 4294967296) : q * b < 18446744073709551616 := by
  have := Nat.mul_le_mul hq (show b ≤ 4294967295 by omega)
  omega

/-- the rest behind a digit. -/
theorem rest_eq {u d y : Nat} (hu : u < y) (hy : y < 18446744073709551616) :
    (u * 4294967296 + d + 18446744073709551616 * y - dig u d y * y) % 18446744073709551616 = (u * 4294967296 + d) % y := by
  have h1 : dig u d y * y + (u * 4294967296 + d) % y = u * 4294967296 + d := by unfold dig; rw [Nat.mul_comm]; exact Nat.div_add_mod _ _
  have h2 : (u * 4294967296 + d) % y < y := Nat.mod_lt _ (by omega)
  generalize dig u d y * y = z at *
  generalize (u * 4294967296 + d) % y = z2 at *
  have : u * 4294967296 + d + 18446744073709551616 * y - z = z2 + 18446744073709551616 * y := by omega
  rw [this, Nat.add_mul_mod_self_left]
  exact Nat.mod_eq_of_lt (by omega)

/-- the same over the integers, as the walk has it: every product wraps. -/
theorem rest_int {u d y q : Nat} (hu : u < y) (hy : y < 18446744073709551616) (hq : q = dig u d y) :
    ((((u * 4294967296 : Nat) : Int) + (d : Int)) - ((q * y : Nat) : Int)) % 18446744073709551616 = (((u * 4294967296 + d) % y : Nat) : Int) := by
  subst hq
  have h1 : dig u d y * y + (u * 4294967296 + d) % y = u * 4294967296 + d := by unfold dig; rw [Nat.mul_comm]; exact Nat.div_add_mod _ _
  have h2 : (u * 4294967296 + d) % y < y := Nat.mod_lt _ (by omega)
  generalize dig u d y * y = z at *
  generalize (u * 4294967296 + d) % y = z2 at *
  omega

/-- two digits make the remainder of u * 2^64 + l. -/
theorem two_digits {u l y : Nat} :
    ((u * 4294967296 + l / 4294967296) % y * 4294967296 + l % 4294967296) % y = (u * 18446744073709551616 + l) % y := by
  have e : u * 18446744073709551616 + l = (u * 4294967296 + l / 4294967296) * 4294967296 + l % 4294967296 := by omega
  rw [e, Nat.add_mod, Nat.mod_mul_mod, ← Nat.add_mod]

/-- scaled by a power of two. -/
theorem scaled (n y k : Nat) (hk : 0 < k) : (n * k) % (y * k) / k = n % y := by
  rw [Nat.mul_mod_mul_right, Nat.mul_div_cancel _ hk]

end Dv
