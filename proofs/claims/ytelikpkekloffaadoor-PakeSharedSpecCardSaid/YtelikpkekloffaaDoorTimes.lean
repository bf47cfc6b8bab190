/- group.times of this program, walked: the product modulo P; the world only draws. -/
import Derived.Test.YtelikpkekloffaaDoorDiv
import Derived.Test.YtelikpkekloffaaDoorGrp
namespace Go.Proofs.YtelikpkekloffaaDoor
open Go.RowKit

theorem drewN_zero (w : World) : w.drewN 0 = w := rfl

theorem div64_P (hi lo : Nat) (h1 : hi < 4611686018427377339) (hl : lo < 18446744073709551616) (w : World) :
    Calls Tryd.prog 96 #[.int .u64 hi, .int .u64 lo, .int .u64 4611686018427377339] w fun e w' => ∃ q : Int, e = .returned (.tuple #[.int .u64 q, .int .u64 ((hi * 18446744073709551616 + lo) % 4611686018427377339 : Nat)]) ∧ ∃ n, w' = w.drewN n :=
  div64_any hi lo 4611686018427377339 h1 hl (by decide) w

theorem hi_lo (n : Nat) : n / 18446744073709551616 * 18446744073709551616 + n % 18446744073709551616 = n := Nat.div_add_mod' n _

set_option maxHeartbeats 400000 in
theorem times_any (a b : Nat) (ha : a < 4611686018427377339) (hb : b < 4611686018427377339) (w : World) :
    Calls Tryd.prog 64 #[.int .u64 a, .int .u64 b] w fun e w' => e = .returned (.int .u64 (Gp.mu 4611686018427377339 a b)) ∧ ∃ n, w' = w.drewN n := by
  have c1 := mul64_any a b (by omega) (by omega) w
  have hm : a * b / 18446744073709551616 < 4611686018427377339 := by
    have := Nat.mul_le_mul (Nat.le_of_lt ha) (Nat.le_of_lt hb)
    rw [Nat.div_lt_iff_lt_mul (by decide)]
    omega
  have c2 := div64_P (a * b / 18446744073709551616) (a * b % 18446744073709551616) hm (Nat.mod_lt _ (by decide)) w
  rw [hi_lo] at c2
  have C1 := Lib.hid c1
  have C2 := Lib.hid c2
  clear c1 c2 hm ha hb
  go_enter Tryd.func64, Tryd.ntmps64
  go_wp2_with fail
  refine C1.out.mono ?_
  rintro e w1 ⟨rfl, rfl⟩
  go_wp2_with fail
  refine C2.out.mono ?_
  rintro e w2 ⟨q, rfl, n, rfl⟩
  go_wp2_with fail
  go_ret
  exact ⟨rfl, n, rfl⟩
end Go.Proofs.YtelikpkekloffaaDoor
