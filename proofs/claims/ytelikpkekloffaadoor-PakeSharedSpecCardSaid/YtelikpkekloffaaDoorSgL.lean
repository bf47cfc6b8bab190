/- Plain laws of signatures: powers of 4 below Q are distinct; what Sign returns solves the equation of the method; the nonce; the difference of two signatures. -/
import Derived.Test.YtelikpkekloffaaDoorSign
namespace Gp

theorem mu_left (m a b c : Nat) : mu m a (mu m b c) = mu m b (mu m a c) := by rw [← mu_assoc, mu_comm m a b, mu_assoc]
theorem El.cancel {a b c : Nat} (ha : El a) (hb : b < 4611686018427377339) (hc : c < 4611686018427377339) (h : Gp.mu 4611686018427377339 a b = Gp.mu 4611686018427377339 a c) : b = c := by
  have hi := ha.inv
  have e : ∀ x, x < 4611686018427377339 → Gp.mu 4611686018427377339 (Gp.pw 4611686018427377339 a 2305843009213688668) (Gp.mu 4611686018427377339 a x) = x := fun x hx => by
    rw [← mu_assoc, mu_comm _ _ a, hi, one_mu hx]
  rw [← e b hb, h, e c hc]
theorem pw4_ne {d : Nat} (h0 : d ≠ 0) (hd : d < 2305843009213688669) : pw 4611686018427377339 4 d ≠ 1 := by
  intro e
  have h := el_four.root h0 hd
  rw [e, one_pw (by decide)] at h
  exact absurd h (by decide)
theorem pw4_le {a d : Nat} (h : pw 4611686018427377339 4 (a + d) = pw 4611686018427377339 4 a) : pw 4611686018427377339 4 d = 1 := by
  have hl : pw 4611686018427377339 4 a < 4611686018427377339 := pw_lt (by decide)
  refine (el_four.pw a).cancel (pw_lt (by decide)) (by decide) ?_
  rw [pw_add, h, mu_one hl]
theorem pw4_inj {a b : Nat} (ha : a < 2305843009213688669) (hb : b < 2305843009213688669) (h : pw 4611686018427377339 4 a = pw 4611686018427377339 4 b) : a = b := by
  rcases Nat.lt_trichotomy a b with e | e | e
  · obtain ⟨d, rfl⟩ : ∃ d, b = a + d := ⟨b - a, by omega⟩
    exact absurd (pw4_le h.symm) (pw4_ne (by omega) (by omega))
  · exact e
  · obtain ⟨d, rfl⟩ : ∃ d, a = b + d := ⟨a - b, by omega⟩
    exact absurd (pw4_le h) (pw4_ne (by omega) (by omega))
theorem diff_Q {a b : Nat} (ha : a < 2305843009213688669) (hb : b < 2305843009213688669) : ((a + (2305843009213688669 - b)) % 2305843009213688669 + b) % 2305843009213688669 = a := by omega
theorem El.sub {g a b : Nat} (hg : El g) (ha : a < 2305843009213688669) (hb : b < 2305843009213688669) :
    Gp.mu 4611686018427377339 (Gp.pw 4611686018427377339 g ((a + (2305843009213688669 - b)) % 2305843009213688669)) (Gp.pw 4611686018427377339 g b) = Gp.pw 4611686018427377339 g a := by
  rw [← hg.expAdd, diff_Q ha hb]
end Gp
namespace Go.Proofs.YtelikpkekloffaaDoor
open Go.RowKit

theorem sgS_lt (x n : Nat) (f : Nat → Nat) : sgS x n f < 2305843009213688669 := Nat.mod_lt _ (by decide)
theorem sgR_el (x n : Nat) (f : Nat → Nat) : Gp.El (sgR x n f) := Gp.el_four.pw _
theorem sg_law (x n : Nat) (f : Nat → Nat) : Gp.pw 4611686018427377339 4 (sgS x n f) = Gp.mu 4611686018427377339 (sgR x n f) (Gp.pw 4611686018427377339 (Gp.pw 4611686018427377339 4 x) (sgC x n f)) := by
  unfold sgS
  rw [Gp.el_four.expAdd, Gp.mu_comm _ (sgC x n f) x, Gp.el_four.expMul]
  rfl
theorem sg_only (x n : Nat) (f : Nat → Nat) (j : Nat) (hj : j < 2305843009213688669) :
    (Gp.pw 4611686018427377339 4 j = Gp.mu 4611686018427377339 (sgR x n f) (Gp.pw 4611686018427377339 (Gp.pw 4611686018427377339 4 x) (sgC x n f))) ↔ j = sgS x n f := by
  rw [← sg_law]
  exact ⟨fun h => Gp.pw4_inj hj (sgS_lt x n f) h, fun h => by rw [h]⟩
theorem sg_nonce (x n : Nat) (f : Nat → Nat) : (sgS x n f + (2305843009213688669 - Gp.mu 2305843009213688669 (sgC x n f) x)) % 2305843009213688669 = sgK x n f := by
  unfold sgS
  have h1 : Gp.mu 2305843009213688669 (sgC x n f) x < 2305843009213688669 := Gp.mu_lt (by decide)
  have h2 := sgK_lt x n f
  generalize Gp.mu 2305843009213688669 (sgC x n f) x = M at *
  generalize sgK x n f = K at *
  omega
theorem sg_diff (x n m : Nat) (f g : Nat → Nat) :
    Gp.pw 4611686018427377339 4 ((sgS x n f + (2305843009213688669 - sgS x m g)) % 2305843009213688669) =
      Gp.mu 4611686018427377339 (Gp.mu 4611686018427377339 (sgR x n f) (Gp.pw 4611686018427377339 (sgR x m g) 2305843009213688668))
        (Gp.pw 4611686018427377339 (Gp.pw 4611686018427377339 4 x) ((sgC x n f + (2305843009213688669 - sgC x m g)) % 2305843009213688669)) := by
  have h1 := Gp.el_four.sub (sgS_lt x n f) (sgS_lt x m g)
  have h2 := (Gp.el_four.pw x).sub (sgC_lt x n f) (sgC_lt x m g)
  have e1 := sg_law x n f
  have e2 := sg_law x m g
  have hi := (sgR_el x m g).inv
  have hX : Gp.El (Gp.pw 4611686018427377339 4 (sgS x m g)) := Gp.el_four.pw _
  refine hX.cancel (Gp.pw_lt (by decide)) (Gp.mu_lt (by decide)) ?_
  rw [Gp.mu_comm, h1, e1, e2, ← h2]
  generalize sgR x n f = R1 at *
  generalize sgR x m g = R2 at *
  generalize Gp.pw 4611686018427377339 R2 2305843009213688668 = I at *
  generalize Gp.pw 4611686018427377339 (Gp.pw 4611686018427377339 4 x) ((sgC x n f + (2305843009213688669 - sgC x m g)) % 2305843009213688669) = c at *
  generalize Gp.pw 4611686018427377339 (Gp.pw 4611686018427377339 4 x) (sgC x m g) = Y at *
  have hl : Gp.mu 4611686018427377339 R1 (Gp.mu 4611686018427377339 c Y) < 4611686018427377339 := Gp.mu_lt (by decide)
  have e3 : Gp.mu 4611686018427377339 (Gp.mu 4611686018427377339 R2 Y) (Gp.mu 4611686018427377339 (Gp.mu 4611686018427377339 R1 I) c) = Gp.mu 4611686018427377339 (Gp.mu 4611686018427377339 R2 I) (Gp.mu 4611686018427377339 R1 (Gp.mu 4611686018427377339 c Y)) := by
    simp only [Gp.mu_comm, Gp.mu_left]
  rw [e3, hi, Gp.one_mu hl]
end Go.Proofs.YtelikpkekloffaaDoor
