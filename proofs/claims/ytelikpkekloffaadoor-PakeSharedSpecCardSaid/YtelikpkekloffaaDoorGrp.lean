/- Plain laws of powers modulo m: powers by bits from the highest one (the program) and from the lowest one (the reference); elements of the group; scalars. -/
import Derived.Test.YtelikpkekloffaaDoorNT
namespace Gp

/-- a power modulo m. -/
def pw (m a k : Nat) : Nat := a ^ k % m
/-- a product modulo m. -/
def mu (m a b : Nat) : Nat := a * b % m

theorem mu_lt {m a b : Nat} (h : 0 < m) : mu m a b < m := Nat.mod_lt _ h
theorem pw_lt {m a k : Nat} (h : 0 < m) : pw m a k < m := Nat.mod_lt _ h

/-- what has come when j rounds are over. -/
def upto {α : Type} (f : Nat → α) (k : Nat) : List α := (List.range k).map f
theorem upto_succ {α : Type} (f : Nat → α) (k : Nat) : upto f (k + 1) = upto f k ++ [f k] := by simp [upto, List.range_succ]
theorem upto_length {α : Type} (f : Nat → α) (k : Nat) : (upto f k).length = k := by simp [upto]
theorem upto_take {α : Type} (f : Nat → α) {k n : Nat} (h : k ≤ n) : upto f k <+: upto f n := by
  have : upto f k = (upto f n).take k := by
    simp only [upto, ← List.map_take, List.take_range]
    rw [Nat.min_eq_left h]
  rw [this]; exact List.take_prefix _ _

/-- bit j of k, of n bits, the highest one first. -/
def bitAt (n k j : Nat) : Bool := k / 2 ^ (n - 1 - j) % 2 == 1
/-- one round of the program's power. -/
def step (m a : Nat) (c : Nat) (b : Bool) : Nat := if b then mu m (mu m c c) a else mu m c c
def run (m a : Nat) (l : List Bool) : Nat := l.foldl (step m a) 1
theorem run_snoc (m a : Nat) (l : List Bool) (b : Bool) : run m a (l ++ [b]) = step m a (run m a l) b := by simp [run]
theorem step_lt {m a c : Nat} {b : Bool} (h : 0 < m) : step m a c b < m := by
  unfold step; split <;> exact mu_lt h
theorem foldl_lt {m a : Nat} (h : 0 < m) : ∀ (l : List Bool) (c : Nat), c < m → l.foldl (step m a) c < m := by
  intro l
  induction l with
  | nil => intro c hc; exact hc
  | cons b l ih => intro c _; exact ih _ (step_lt h)
theorem run_lt {m a : Nat} (h : 1 < m) (l : List Bool) : run m a l < m := foldl_lt (by omega) l 1 h

theorem run_upto {m a n k : Nat} (h : 1 < m) (hk : k < 2 ^ n) : ∀ j, j ≤ n → run m a (upto (bitAt n k) j) = pw m a (k / 2 ^ (n - j)) := by
  intro j
  induction j with
  | zero =>
    intro _
    have : k / 2 ^ (n - 0) = 0 := Nat.div_eq_of_lt (by simpa using hk)
    rw [this]
    simp [upto, run, pw, Nat.mod_eq_of_lt h]
  | succ j ih =>
    intro hj
    rw [upto_succ, run_snoc, ih (by omega)]
    have e1 : n - j = (n - (j + 1)) + 1 := by omega
    have e2 : n - 1 - j = n - (j + 1) := by omega
    have e3 : k / 2 ^ (n - j) = k / 2 ^ (n - (j + 1)) / 2 := by rw [e1, Nat.pow_succ, Nat.div_div_eq_div_mul]
    unfold bitAt
    rw [e2, e3]
    generalize k / 2 ^ (n - (j + 1)) = x
    unfold step mu pw
    have hsq : a ^ (x / 2) % m * (a ^ (x / 2) % m) % m = a ^ (2 * (x / 2)) % m := by
      rw [← Nat.mul_mod, ← Nat.pow_add]; congr 2; omega
    by_cases hx : x % 2 = 1
    · have ex : x = 2 * (x / 2) + 1 := by omega
      simp only [hx, beq_self_eq_true, if_true]
      rw [hsq]
      conv => rhs; rw [ex, Nat.pow_succ, Nat.mul_mod]
      conv => lhs; rw [Nat.mul_mod, Nat.mod_mod]
    · have ex : x = 2 * (x / 2) := by omega
      have hb : (x % 2 == 1) = false := by simpa using hx
      rw [hb]
      simp only [Bool.false_eq_true, if_false]
      rw [hsq]
      conv => rhs; rw [ex]

theorem run_all {m a n k : Nat} (h : 1 < m) (hk : k < 2 ^ n) : run m a (upto (bitAt n k) n) = pw m a k := by
  rw [run_upto h hk n (Nat.le_refl _)]; simp

/-! powers -/
theorem pw_zero {m a : Nat} (h : 1 < m) : pw m a 0 = 1 := by simp [pw, Nat.mod_eq_of_lt h]
theorem pw_one {m a : Nat} (h : a < m) : pw m a 1 = a := by simp [pw, Nat.mod_eq_of_lt h]
theorem pw_add (m a j k : Nat) : mu m (pw m a j) (pw m a k) = pw m a (j + k) := by
  unfold mu pw; rw [← Nat.mul_mod, ← Nat.pow_add]
theorem pw_mul (m a j k : Nat) : pw m (pw m a j) k = pw m a (j * k) := by
  unfold pw; rw [← Nat.pow_mod, ← Nat.pow_mul]
theorem pw_mu (m a b k : Nat) : pw m (mu m a b) k = mu m (pw m a k) (pw m b k) := by
  unfold pw mu; rw [← Nat.pow_mod, ← Nat.mul_mod, Nat.mul_pow]
theorem mu_comm (m a b : Nat) : mu m a b = mu m b a := by unfold mu; rw [Nat.mul_comm]
theorem mu_assoc (m a b c : Nat) : mu m (mu m a b) c = mu m a (mu m b c) := by
  unfold mu; rw [Nat.mod_mul_mod, Nat.mul_mod_mod, Nat.mul_assoc]
theorem mu_one {m a : Nat} (h : a < m) : mu m a 1 = a := by unfold mu; rw [Nat.mul_one, Nat.mod_eq_of_lt h]
theorem one_mu {m a : Nat} (h : a < m) : mu m 1 a = a := by rw [mu_comm, mu_one h]
theorem pw_mod_exp {m a q : Nat} (h1 : 1 < m) (h : pw m a q = 1) (k : Nat) : pw m a (k % q) = pw m a k := by
  have e : q * (k / q) + k % q = k := Nat.div_add_mod k q
  have h2 : pw m a (q * (k / q)) = 1 := by
    rw [← pw_mul, h]; unfold pw; rw [Nat.one_pow, Nat.mod_eq_of_lt h1]
  conv => rhs; rw [← e, ← pw_add, h2, one_mu (pw_lt (by omega))]

/-- the reference's product: doubling and adding. -/
theorem pw_eq_of_pmod {m b e r : Nat} (f : Nat) (he : e < 2 ^ f) (h : Nt.pmod m f b e 1 % m = r) : pw m b e = r := Nt.pow_of_pmod f he h

end Gp
