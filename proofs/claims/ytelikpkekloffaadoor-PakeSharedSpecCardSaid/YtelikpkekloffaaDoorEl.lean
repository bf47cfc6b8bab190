/- Plain: which numbers are elements of the group, what the functions of package group return. -/
import Derived.Test.YtelikpkekloffaaDoorGrp
namespace Gp

/-- is a number an element? -/
def isEl (a : Int) : Bool := decide (1 ≤ a) && decide (a < 4611686018427377339) && (pw 4611686018427377339 a.toNat 2305843009213688669 == 1)
/-- is a number a scalar? -/
def isSc (k : Int) : Bool := decide (0 ≤ k) && decide (k < 2305843009213688669)

theorem isEl_nat {a : Int} (h : isEl a = true) : ∃ n : Nat, a = (n : Int) ∧ 1 ≤ n ∧ n < 4611686018427377339 ∧ pw 4611686018427377339 n 2305843009213688669 = 1 := by
  simp only [isEl, Bool.and_eq_true, decide_eq_true_eq, beq_iff_eq] at h
  exact ⟨a.toNat, by omega, by omega, by omega, h.2⟩
theorem isEl_of {n : Nat} (h1 : 1 ≤ n) (h2 : n < 4611686018427377339) (h3 : pw 4611686018427377339 n 2305843009213688669 = 1) : isEl (n : Int) = true := by
  simp only [isEl, Bool.and_eq_true, decide_eq_true_eq, beq_iff_eq]
  exact ⟨⟨by omega, by omega⟩, by rw [Int.toNat_natCast]; exact h3⟩
theorem isEl_cases (a : Int) : a < 1 ∨ 4611686018427377339 ≤ a ∨ ∃ n : Nat, a = (n : Int) ∧ 1 ≤ n ∧ n < 4611686018427377339 ∧ isEl a = (pw 4611686018427377339 n 2305843009213688669 == 1) := by
  by_cases h1 : a < 1
  · exact .inl h1
  · by_cases h2 : 4611686018427377339 ≤ a
    · exact .inr (.inl h2)
    · refine .inr (.inr ⟨a.toNat, by omega, by omega, by omega, ?_⟩)
      have e1 : decide (1 ≤ a) = true := by rw [decide_eq_true_eq]; omega
      have e2 : decide (a < 4611686018427377339) = true := by rw [decide_eq_true_eq]; omega
      rw [isEl, e1, e2, Bool.true_and, Bool.true_and]
theorem isEl_lt1 {a : Int} (h : a < 1) : isEl a = false := by
  have e1 : decide (1 ≤ a) = false := by rw [decide_eq_false_iff_not]; omega
  rw [isEl, e1, Bool.false_and, Bool.false_and]
theorem isEl_ge {a : Int} (h : 4611686018427377339 ≤ a) : isEl a = false := by
  have e1 : decide (a < 4611686018427377339) = false := by rw [decide_eq_false_iff_not]; omega
  rw [isEl, e1, Bool.and_false, Bool.false_and]
theorem isSc_nat {k : Int} (h : isSc k = true) : ∃ n : Nat, k = (n : Int) ∧ n < 2305843009213688669 := by
  simp only [isSc, Bool.and_eq_true, decide_eq_true_eq] at h
  exact ⟨k.toNat, by omega, by omega⟩
theorem isSc_of {n : Nat} (h : n < 2305843009213688669) : isSc (n : Int) = true := by
  simp only [isSc, Bool.and_eq_true, decide_eq_true_eq]; omega
theorem isSc_not {k : Int} (h : isSc k = false) : k < 0 ∨ (0 ≤ k ∧ 2305843009213688669 ≤ k) := by
  apply Decidable.byContradiction
  intro hn
  have : isSc k = true := by simp only [isSc, Bool.and_eq_true, decide_eq_true_eq]; omega
  rw [this] at h; cases h

/-- Check, Mul, Exp: the value and the error. -/
def gChk (a : Int) : Int := if isEl a then 0 else 40
def gMul (a b : Int) : Int × Int := if isEl a then (if isEl b then ((mu 4611686018427377339 a.toNat b.toNat : Nat), 0) else (0, 40)) else (0, 40)
def gExp (a k : Int) : Int × Int := if isEl a then (if isSc k then ((pw 4611686018427377339 a.toNat k.toNat : Nat), 0) else (0, 1)) else (0, 40)
end Gp
