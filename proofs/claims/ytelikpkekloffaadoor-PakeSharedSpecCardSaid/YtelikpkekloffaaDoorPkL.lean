/- Plain laws of the exchange: what both sides share; a point without its mask; two codes. -/
import Derived.Test.YtelikpkekloffaaDoorPakeC
import Derived.Test.YtelikpkekloffaaDoorSgL
namespace Gp
theorem unmask {y m : Nat} (hy : y < 4611686018427377339) (hm : El m) : mu 4611686018427377339 (mu 4611686018427377339 y m) (pw 4611686018427377339 m 2305843009213688668) = y := by
  rw [mu_assoc, hm.inv, mu_one hy]
end Gp
namespace Go.Proofs.YtelikpkekloffaaDoor
open Go.RowKit

theorem sh_own (r c x b : Nat) : shOf r c x (ppOf (3 - r) c b) = Gp.pw 4611686018427377339 4 (b * x) := by
  unfold shOf ppOf
  rw [Gp.unmask (Gp.pw_lt (by decide)) (ma_el _ _), Gp.pw_mul]
theorem key_agree (c a b : Nat) : keyOf 1 c a (ppOf 2 c b) = keyOf 2 c b (ppOf 1 c a) := by
  have h1 := sh_own 1 c a b
  have h2 := sh_own 2 c b a
  rw [show 3 - 1 = 2 from rfl] at h1
  rw [show 3 - 2 = 1 from rfl] at h2
  unfold keyOf
  rw [if_pos rfl, if_neg (by decide), h1, h2, Nat.mul_comm]
/-- a point without its mask. -/
theorem pp_bare (r c a : Nat) : Gp.mu 4611686018427377339 (ppOf r c a) (Gp.pw 4611686018427377339 (maOf (nmOf r) c) 2305843009213688668) = Gp.pw 4611686018427377339 4 a :=
  Gp.unmask (Gp.pw_lt (by decide)) (ma_el _ _)
/-- a point with another secret. -/
theorem pp_move (r c a b : Nat) (ha : a < 2305843009213688669) (hb : b < 2305843009213688669) :
    Gp.mu 4611686018427377339 (ppOf r c a) (Gp.pw 4611686018427377339 4 ((b + (2305843009213688669 - a)) % 2305843009213688669)) = ppOf r c b := by
  have h := Gp.el_four.sub hb ha
  unfold ppOf
  rw [Gp.mu_comm _ (Gp.pw 4611686018427377339 4 a) (maOf (nmOf r) c), Gp.mu_assoc, Gp.mu_comm _ (Gp.pw 4611686018427377339 4 a) _, h, Gp.mu_comm]
theorem pwOf_lt (c : Nat) : pwOf c < 2305843009213688669 := scOf_lt _ _ _
theorem mk_el (nm : ByteArray) : Gp.El (mkOf nm) := pt_el _ _ _
/-- the shared element, where the other side has another code. -/
theorem sh_codes (r c d x b : Nat) : shOf r c x (ppOf (3 - r) d b) =
    Gp.mu 4611686018427377339 (Gp.pw 4611686018427377339 4 (b * x)) (Gp.pw 4611686018427377339 (mkOf (nmOf (3 - r))) (Gp.mu 2305843009213688669 ((pwOf d + (2305843009213688669 - pwOf c)) % 2305843009213688669) x)) := by
  have h := (mk_el (nmOf (3 - r))).sub (pwOf_lt d) (pwOf_lt c)
  have e := (mk_el (nmOf (3 - r))).expMul ((pwOf d + (2305843009213688669 - pwOf c)) % 2305843009213688669) x
  rw [e]
  have hi := ((mk_el (nmOf (3 - r))).pw (pwOf c)).inv
  unfold shOf ppOf maOf
  rw [← h]
  generalize Gp.pw 4611686018427377339 (mkOf (nmOf (3 - r))) (pwOf c) = U at *
  have hDl : Gp.pw 4611686018427377339 (mkOf (nmOf (3 - r))) ((pwOf d + (2305843009213688669 - pwOf c)) % 2305843009213688669) < 4611686018427377339 := Gp.pw_lt (by decide)
  generalize Gp.pw 4611686018427377339 (mkOf (nmOf (3 - r))) ((pwOf d + (2305843009213688669 - pwOf c)) % 2305843009213688669) = D at *
  rw [Gp.mu_assoc, Gp.mu_assoc, hi, Gp.mu_one hDl, Gp.pw_mu, Gp.pw_mul]
/-- the shared elements are equal exactly if the powers of both masks are. -/
theorem codes_iff (c d a b : Nat) :
    (shOf 1 c a (ppOf 2 d b) = shOf 2 d b (ppOf 1 c a)) ↔
    (Gp.pw 4611686018427377339 (mkOf (nmOf 2)) (Gp.mu 2305843009213688669 ((pwOf d + (2305843009213688669 - pwOf c)) % 2305843009213688669) a) =
     Gp.pw 4611686018427377339 (mkOf (nmOf 1)) (Gp.mu 2305843009213688669 ((pwOf c + (2305843009213688669 - pwOf d)) % 2305843009213688669) b)) := by
  have h1 := sh_codes 1 c d a b
  have h2 := sh_codes 2 d c b a
  rw [show 3 - 1 = 2 from rfl] at h1
  rw [show 3 - 2 = 1 from rfl, Nat.mul_comm a b] at h2
  rw [h1, h2]
  constructor
  · intro h
    exact (Gp.el_four.pw (b * a)).cancel (Gp.pw_lt (by decide)) (Gp.pw_lt (by decide)) h
  · intro h
    rw [h]
end Go.Proofs.YtelikpkekloffaaDoor
