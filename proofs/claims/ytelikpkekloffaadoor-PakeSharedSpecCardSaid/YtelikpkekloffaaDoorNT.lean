/- Plain number theory: Fermat's little theorem at the two primes of the group, out of primitive roots. -/
namespace Nt

/-- b ^ e * acc modulo m, by the bits of e; fuel bounds them. -/
def pmod (m : Nat) : Nat → Nat → Nat → Nat → Nat
  | 0, _, _, acc => acc
  | f + 1, b, e, acc => if e = 0 then acc else pmod m f (b * b % m) (e / 2) (if e % 2 = 1 then acc * b % m else acc)

theorem pmod_eq (m : Nat) : ∀ (f b e acc : Nat), e < 2 ^ f → pmod m f b e acc % m = acc * b ^ e % m := by
  intro f
  induction f with
  | zero => intro b e acc h; have : e = 0 := by simpa using h
            subst this; simp [pmod]
  | succ f ih =>
    intro b e acc h
    unfold pmod
    by_cases he : e = 0
    · subst he; simp
    · rw [if_neg he, ih _ _ _ (by rw [Nat.pow_succ] at h; omega)]
      have hb : (b * b % m) ^ (e / 2) % m = b ^ (2 * (e / 2)) % m := by
        rw [← Nat.pow_mod, Nat.pow_mul, ← Nat.pow_two]
      by_cases ho : e % 2 = 1
      · rw [if_pos ho]
        have e2 : e = 2 * (e / 2) + 1 := by omega
        conv => rhs; rw [e2, Nat.pow_succ, Nat.mul_comm (b ^ (2 * (e / 2))) b, ← Nat.mul_assoc]
        rw [Nat.mul_mod, hb, Nat.mod_mod, ← Nat.mul_mod]
      · rw [if_neg ho]
        have e2 : e = 2 * (e / 2) := by omega
        conv => rhs; rw [e2]
        rw [Nat.mul_mod, hb, ← Nat.mul_mod]

theorem pow_of_pmod {m b e r : Nat} (f : Nat) (he : e < 2 ^ f) (h : pmod m f b e 1 % m = r) : b ^ e % m = r := by
  rw [← h, pmod_eq m f b e 1 he, Nat.one_mul]

/-- r has no divisor but 1 and itself, said by gcd. -/
def Pr (r : Nat) : Prop := 1 < r ∧ ∀ e, ¬ r ∣ e → Nat.gcd e r = 1

/-- a ^ (p - 1) is 1 modulo p for all a from 1 to p - 1. -/
def Fm (p : Nat) : Prop := 1 < p ∧ ∀ a, 0 < a → a < p → a ^ (p - 1) % p = 1

theorem pr_of_fm {p : Nat} (h : Fm p) : Pr p := by
  refine ⟨h.1, fun e he => ?_⟩
  have hp : 0 < p := by have := h.1; omega
  have h0 : 0 < e % p := Nat.pos_of_ne_zero fun e0 => he (Nat.dvd_of_mod_eq_zero e0)
  have hf := h.2 (e % p) h0 (Nat.mod_lt _ hp)
  rw [Nat.gcd_comm e p, Nat.gcd_rec p e]
  have hd1 : Nat.gcd (e % p) p ∣ (e % p) ^ (p - 1) := by
    have : p - 1 = (p - 2) + 1 := by have := h.1; omega
    rw [this, Nat.pow_succ]
    exact Nat.dvd_mul_left_of_dvd (Nat.gcd_dvd_left _ _) _
  have hd2 : Nat.gcd (e % p) p ∣ p := Nat.gcd_dvd_right _ _
  have h3 : Nat.gcd (e % p) p ∣ (e % p) ^ (p - 1) % p := (Nat.dvd_mod_iff hd2).2 hd1
  rw [hf] at h3
  exact Nat.dvd_one.1 h3

/-- trial division: no d from k to k + n - 1 divides r. -/
def noDiv (r : Nat) : Nat → Nat → Bool
  | 0, _ => true
  | n + 1, k => r % k != 0 && noDiv r n (k + 1)

theorem noDiv_spec {r : Nat} : ∀ (n k : Nat), noDiv r n k = true → ∀ d, k ≤ d → d < k + n → ¬ d ∣ r := by
  intro n
  induction n with
  | zero => intro k _ d h1 h2; omega
  | succ n ih =>
    intro k h d h1 h2
    rw [noDiv, Bool.and_eq_true] at h
    by_cases hk : d = k
    · subst hk
      intro hd
      have := Nat.mod_eq_zero_of_dvd hd
      rw [this] at h
      simp at h
    · exact ih (k + 1) h.2 d (by omega) (by omega)

theorem pr_of_trial {r : Nat} (s : Nat) (h1 : 1 < r) (hs : r < (s + 2) * (s + 2)) (h : noDiv r s 2 = true) : Pr r := by
  refine ⟨h1, fun e he => ?_⟩
  have hg := Nat.gcd_dvd_right e r
  have hgl := Nat.gcd_dvd_left e r
  obtain ⟨c, hc⟩ := hg
  generalize Nat.gcd e r = g at *
  have hn := noDiv_spec s 2 h
  by_cases g1 : g = 1
  · exact g1
  · exfalso
    have hg0 : g ≠ 0 := by intro h0; subst h0; omega
    have hgs : s + 2 ≤ g := by
      apply Decidable.byContradiction; intro hlt
      exact hn g (by omega) (by omega) ⟨c, hc⟩
    have hc0 : c ≠ 0 := by intro h0; subst h0; omega
    by_cases c1 : c = 1
    · subst c1; rw [Nat.mul_one] at hc; rw [hc] at he; exact he hgl
    · have hcs : s + 2 ≤ c := by
        apply Decidable.byContradiction; intro hlt
        exact hn c (by omega) (by omega) ⟨g, by rw [hc, Nat.mul_comm]⟩
      have : (s + 2) * (s + 2) ≤ g * c := Nat.mul_le_mul hgs hcs
      omega

theorem pow_add_one {p g a b : Nat} (ha : g ^ a % p = 1 % p) : g ^ (a + b) % p = g ^ b % p := by
  rw [Nat.pow_add, Nat.mul_mod, ha, ← Nat.mul_mod, Nat.one_mul]

theorem pow_mul_one {p g a : Nat} (ha : g ^ a % p = 1 % p) (k : Nat) : g ^ (a * k) % p = 1 % p := by
  rw [Nat.pow_mul, Nat.pow_mod, ha, ← Nat.pow_mod, Nat.one_pow]

theorem pow_gcd_one {p g : Nat} (a b : Nat) : g ^ a % p = 1 % p → g ^ b % p = 1 % p → g ^ (Nat.gcd a b) % p = 1 % p := by
  induction a, b using Nat.gcd.induction with
  | H0 n => intro _ h; simpa using h
  | H1 m n hm ih =>
    intro ha hb
    rw [Nat.gcd_rec]
    refine ih ?_ ha
    have e : m * (n / m) + n % m = n := Nat.div_add_mod n m
    rw [← e, pow_add_one (pow_mul_one ha _)] at hb
    exact hb

theorem coprime_all {e : Nat} : ∀ (l : List Nat), (∀ q ∈ l, Nat.gcd e q = 1) → Nat.gcd e (l.foldr (· * ·) 1) = 1 := by
  intro l
  induction l with
  | nil => intro _; simp
  | cons q l ih =>
    intro h
    simp only [List.foldr_cons]
    exact Nat.Coprime.mul_right (h q (by simp)) (ih fun x hx => h x (by simp [hx]))

/-- the order of g is p - 1. -/
theorem order_of {p g : Nat} (fs : List Nat) (hp : 1 < p) (hn : p - 1 = fs.foldr (· * ·) 1) (hf : ∀ q ∈ fs, Pr q)
    (h1 : g ^ (p - 1) % p = 1) (hq : ∀ q ∈ fs, g ^ ((p - 1) / q) % p ≠ 1) :
    ∀ d, 0 < d → d < p - 1 → g ^ d % p ≠ 1 := by
  intro d hd0 hd hgd
  have hone : 1 % p = 1 := Nat.mod_eq_of_lt hp
  have hg : g ^ (Nat.gcd d (p - 1)) % p = 1 % p := pow_gcd_one d (p - 1) (by rw [hgd, hone]) (by rw [h1, hone])
  obtain ⟨e, he⟩ := Nat.gcd_dvd_right d (p - 1)
  have hle := Nat.gcd_le_left (n := p - 1) hd0
  generalize Nat.gcd d (p - 1) = g' at *
  have hcase : ∃ q ∈ fs, q ∣ e := by
    apply Decidable.byContradiction
    intro hne
    have hco : Nat.gcd e (p - 1) = 1 := by
      rw [hn]
      refine coprime_all fs fun q hqm => (hf q hqm).2 e fun hdv => hne ⟨q, hqm, hdv⟩
    have hdv : e ∣ p - 1 := ⟨g', by rw [he, Nat.mul_comm]⟩
    rw [Nat.gcd_eq_left hdv] at hco
    subst hco
    omega
  obtain ⟨q, hqm, e', he'⟩ := hcase
  have hq0 : 0 < q := by have := (hf q hqm).1; omega
  refine hq q hqm ?_
  have : (p - 1) / q = g' * e' := by
    rw [he, he', ← Nat.mul_assoc, Nat.mul_comm g' q, Nat.mul_assoc, Nat.mul_div_cancel_left _ hq0]
  rw [this, pow_mul_one hg, hone]

theorem pigeon : ∀ (n : Nat) (f : Nat → Nat), (∀ i, i < n → f i < n) → (∀ i j, i < n → j < n → f i = f j → i = j) → ∀ y, y < n → ∃ i, i < n ∧ f i = y := by
  intro n
  induction n with
  | zero => intro f _ _ y hy; omega
  | succ n ih =>
    intro f hlt hinj y hy
    let f' := fun i => if f i = n then f n else f i
    have hf' : ∀ i, i < n → f' i < n := by
      intro i hi
      show (if f i = n then f n else f i) < n
      have a := hlt i (by omega)
      have b := hlt n (by omega)
      by_cases h : f i = n
      · rw [if_pos h]
        have : f n ≠ n := fun e => by have := hinj i n (by omega) (by omega) (by rw [h, e]); omega
        omega
      · rw [if_neg h]; omega
    have hi' : ∀ i j, i < n → j < n → f' i = f' j → i = j := by
      intro i j hi hj h
      replace h : (if f i = n then f n else f i) = (if f j = n then f n else f j) := h
      by_cases a : f i = n <;> by_cases b : f j = n
      · exact hinj i j (by omega) (by omega) (by rw [a, b])
      · rw [if_pos a, if_neg b] at h; have := hinj n j (by omega) (by omega) h; omega
      · rw [if_neg a, if_pos b] at h; have := hinj i n (by omega) (by omega) h; omega
      · rw [if_neg a, if_neg b] at h; exact hinj i j (by omega) (by omega) h
    by_cases h1 : y = f n
    · exact ⟨n, by omega, h1.symm⟩
    · by_cases h2 : y = n
      · have hz : f n < n := by have := hlt n (by omega); omega
        obtain ⟨i, hi, he⟩ := ih f' hf' hi' (f n) hz
        replace he : (if f i = n then f n else f i) = f n := he
        by_cases a : f i = n
        · exact ⟨i, by omega, by rw [a, h2]⟩
        · rw [if_neg a] at he; have := hinj i n (by omega) (by omega) he; omega
      · obtain ⟨i, hi, he⟩ := ih f' hf' hi' y (by omega)
        replace he : (if f i = n then f n else f i) = y := he
        by_cases a : f i = n
        · rw [if_pos a] at he; exact absurd he.symm h1
        · rw [if_neg a] at he; exact ⟨i, by omega, he⟩

/-- Lucas: a primitive root makes Fermat's theorem. -/
theorem fm_of_root {p g : Nat} (fs : List Nat) (hp : 1 < p) (hn : p - 1 = fs.foldr (· * ·) 1) (hf : ∀ q ∈ fs, Pr q)
    (h1 : g ^ (p - 1) % p = 1) (hq : ∀ q ∈ fs, g ^ ((p - 1) / q) % p ≠ 1) : Fm p := by
  have hone : 1 % p = 1 := Nat.mod_eq_of_lt hp
  have hord := order_of fs hp hn hf h1 hq
  have hpos : ∀ i, i < p - 1 → 0 < g ^ i % p := by
    intro i hi
    apply Nat.pos_of_ne_zero
    intro h0
    have e : i + (p - 1 - i) = p - 1 := by omega
    rw [← e, Nat.pow_add, Nat.mul_mod, h0] at h1
    simp at h1
  have hinj0 : ∀ i j, i < p - 1 → j < p - 1 → i < j → g ^ i % p = g ^ j % p → False := by
    intro i j hi hj hij h
    refine hord (j - i) (by omega) (by omega) ?_
    have e1 : g ^ (i + (p - 1 - i)) % p = g ^ (j + (p - 1 - i)) % p := by
      rw [Nat.pow_add, Nat.pow_add, Nat.mul_mod, h, ← Nat.mul_mod]
    have e2 : i + (p - 1 - i) = p - 1 := by omega
    have e3 : j + (p - 1 - i) = (p - 1) + (j - i) := by omega
    rw [e2, e3, h1, pow_add_one (by rw [h1, hone])] at e1
    exact e1.symm
  refine ⟨hp, fun a ha0 ha => ?_⟩
  obtain ⟨i, hi, he⟩ := pigeon (p - 1) (fun i => g ^ i % p - 1)
    (fun i hi => by
      have := hpos i hi
      have := Nat.mod_lt (g ^ i) (show 0 < p by omega)
      show g ^ i % p - 1 < p - 1
      omega)
    (fun i j hi hj h => by
      have a := hpos i hi
      have b := hpos j hj
      replace h : g ^ i % p - 1 = g ^ j % p - 1 := h
      have h' : g ^ i % p = g ^ j % p := by omega
      rcases Nat.lt_trichotomy i j with h3 | h3 | h3
      · exact (hinj0 i j hi hj h3 h').elim
      · exact h3
      · exact (hinj0 j i hj hi h3 h'.symm).elim)
    (a - 1) (by omega)
  replace he : g ^ i % p - 1 = a - 1 := he
  have hai : a = g ^ i % p := by have := hpos i hi; omega
  rw [hai, ← Nat.pow_mod, ← Nat.pow_mul, Nat.mul_comm, pow_mul_one (by rw [h1, hone]), hone]

def P : Nat := 4611686018427377339
def Q : Nat := 2305843009213688669

theorem pr_2 : Pr 2 := pr_of_trial 0 (by decide) (by decide) (by decide)
theorem pr_3 : Pr 3 := pr_of_trial 0 (by decide) (by decide) (by decide)
theorem pr_11 : Pr 11 := pr_of_trial 2 (by decide) (by decide) (by decide)
theorem pr_17 : Pr 17 := pr_of_trial 3 (by decide) (by decide) (by decide)
theorem pr_73 : Pr 73 := pr_of_trial 7 (by decide) (by decide) (by decide +kernel)
theorem pr_2311 : Pr 2311 := pr_of_trial 48 (by decide +kernel) (by decide +kernel) (by decide +kernel)
theorem pr_7930907 : Pr 7930907 := pr_of_trial 2820 (by decide +kernel) (by decide +kernel) (by decide +kernel)

theorem ne_of_pmod {m b e : Nat} (f : Nat) (he : e < 2 ^ f) (h : pmod m f b e 1 % m ≠ 1) : b ^ e % m ≠ 1 :=
  fun h1 => h (by rw [pmod_eq m f b e 1 he, Nat.one_mul]; exact h1)

theorem fm_of_root' {p g : Nat} (fs : List Nat) (hp : 1 < p) (hp64 : p - 1 < 2 ^ 64) (hn : p - 1 = fs.foldr (· * ·) 1) (hf : ∀ q ∈ fs, Pr q)
    (h1 : pmod p 64 g (p - 1) 1 % p = 1) (hq : fs.all (fun q => pmod p 64 g ((p - 1) / q) 1 % p != 1) = true) : Fm p := by
  refine fm_of_root fs hp hn hf (pow_of_pmod 64 hp64 h1) fun q hqm => ne_of_pmod 64 (Nat.lt_of_le_of_lt (Nat.div_le_self _ _) hp64) ?_
  have := List.all_eq_true.1 hq q hqm
  simpa using this

theorem fm_T : Fm 11864636873 := fm_of_root' (g := 5) [2, 2, 2, 11, 17, 7930907] (by decide +kernel) (by decide +kernel) (by decide +kernel)
  (by simp only [List.mem_cons, List.not_mem_nil, or_false]; rintro q (rfl | rfl | rfl | rfl | rfl | rfl) <;> first | exact pr_2 | exact pr_11 | exact pr_17 | exact pr_7930907)
  (by decide +kernel) (by decide +kernel)
theorem fm_S : Fm 1732236983459 := fm_of_root' (g := 2) [2, 73, 11864636873] (by decide +kernel) (by decide +kernel) (by decide +kernel)
  (by simp only [List.mem_cons, List.not_mem_nil, or_false]; rintro q (rfl | rfl | rfl) <;> first | exact pr_2 | exact pr_73 | exact pr_of_fm fm_T)
  (by decide +kernel) (by decide +kernel)
theorem fm_R : Fm 249442125618097 := fm_of_root' (g := 5) [2, 2, 2, 2, 3, 3, 1732236983459] (by decide +kernel) (by decide +kernel) (by decide +kernel)
  (by simp only [List.mem_cons, List.not_mem_nil, or_false]; rintro q (rfl | rfl | rfl | rfl | rfl | rfl | rfl) <;> first | exact pr_2 | exact pr_3 | exact pr_of_fm fm_S)
  (by decide +kernel) (by decide +kernel)
theorem fm_Q : Fm 2305843009213688669 := fm_of_root' (g := 2) [2, 2, 2311, 249442125618097] (by decide +kernel) (by decide +kernel) (by decide +kernel)
  (by simp only [List.mem_cons, List.not_mem_nil, or_false]; rintro q (rfl | rfl | rfl | rfl) <;> first | exact pr_2 | exact pr_2311 | exact pr_of_fm fm_R)
  (by decide +kernel) (by decide +kernel)
theorem fm_P : Fm 4611686018427377339 := fm_of_root' (g := 2) [2, 2305843009213688669] (by decide +kernel) (by decide +kernel) (by decide +kernel)
  (by simp only [List.mem_cons, List.not_mem_nil, or_false]; rintro q (rfl | rfl) <;> first | exact pr_2 | exact pr_of_fm fm_Q)
  (by decide +kernel) (by decide +kernel)
end Nt
