/- Plain: the chapter's examples, reckoned. -/
import Derived.Test.YtelikpkekloffaaDoorEl
namespace Gp

theorem pwN (a k r : Nat) (he : k < 2 ^ 64) (h : Nt.pmod 4611686018427377339 64 a k 1 % 4611686018427377339 = r) : pw 4611686018427377339 a k = r := pw_eq_of_pmod 64 he h

theorem isEl_yes (n : Nat) (h1 : 1 ≤ n) (h2 : n < 4611686018427377339) (h : Nt.pmod 4611686018427377339 64 n 2305843009213688669 1 % 4611686018427377339 = 1) : isEl (n : Int) = true :=
  isEl_of h1 h2 (pwN n 2305843009213688669 1 (by decide) h)
theorem isEl_not (n : Nat) (h : Nt.pmod 4611686018427377339 64 n 2305843009213688669 1 % 4611686018427377339 ≠ 1) : isEl (n : Int) = false := by
  rcases isEl_cases (n : Int) with h1 | h1 | ⟨m, hm, _, _, h5⟩
  · exact isEl_lt1 h1
  · exact isEl_ge h1
  · obtain rfl : n = m := by omega
    rw [h5, pwN n 2305843009213688669 _ (by decide) rfl]
    simpa using h

theorem el1 : isEl 1 = true := isEl_yes 1 (by decide) (by decide) (by decide +kernel)
theorem el4 : isEl 4 = true := isEl_yes 4 (by decide) (by decide) (by decide +kernel)
theorem el16 : isEl 16 = true := isEl_yes 16 (by decide) (by decide) (by decide +kernel)
theorem no0 : isEl 0 = false := isEl_lt1 (by decide)
theorem noP : isEl 4611686018427377339 = false := isEl_ge (by decide)
theorem noP1 : isEl 4611686018427377338 = false := isEl_not 4611686018427377338 (by decide +kernel)
theorem no2 : isEl 2 = false := isEl_not 2 (by decide +kernel)
theorem no_4 : isEl (-4) = false := isEl_lt1 (by decide)
theorem noBig : isEl 4611686018427387904 = false := isEl_ge (by decide)

theorem gMul_ok {a b : Int} (ha : isEl a = true) (hb : isEl b = true) : gMul a b = (((mu 4611686018427377339 a.toNat b.toNat : Nat) : Int), 0) := by
  unfold gMul; rw [if_pos ha, if_pos hb]
theorem gExp_ok {a k : Int} (ha : isEl a = true) (hk : isSc k = true) : gExp a k = (((pw 4611686018427377339 a.toNat k.toNat : Nat) : Int), 0) := by
  unfold gExp; rw [if_pos ha, if_pos hk]
theorem gExp_arg {a k : Int} (ha : isEl a = true) (hk : isSc k = false) : gExp a k = (0, 1) := by
  unfold gExp; rw [if_pos ha, hk]; rfl
theorem gExp_num {a k : Int} {n j r : Nat} (ha : isEl a = true) (hk : isSc k = true) (en : a.toNat = n) (ej : k.toNat = j) (hj : j < 2 ^ 64)
    (h : Nt.pmod 4611686018427377339 64 n j 1 % 4611686018427377339 = r) : gExp a k = ((r : Int), 0) := by
  rw [gExp_ok ha hk, en, ej, pwN n j r hj h]

theorem ex1 : gMul 4 4 = (16, 0) := by rw [gMul_ok el4 el4]; rfl
theorem ex2 : gExp 4 3 = (64, 0) := gExp_num (n := 4) (j := 3) (r := 64) el4 (by decide) rfl rfl (by decide) (by decide +kernel)
theorem ex3 : gExp 4 (-1) = (0, 1) := gExp_arg el4 (by decide)
theorem ex4 : gExp 4 2305843009213688669 = (0, 1) := gExp_arg el4 (by decide)
theorem ex5 : gExp 1 2305843009213688668 = (1, 0) := gExp_num (n := 1) (j := 2305843009213688668) (r := 1) el1 (by decide) rfl rfl (by decide) (by decide +kernel)
theorem ex6 : gExp 4 2305843009213688668 = (1152921504606844335, 0) := gExp_num (n := 4) (j := 2305843009213688668) (r := 1152921504606844335) el4 (by decide) rfl rfl (by decide) (by decide +kernel)
theorem ex7 : gExp 16 0 = (1, 0) := gExp_num (n := 16) (j := 0) (r := 1) el16 (by decide) rfl rfl (by decide) (by decide +kernel)
end Gp
