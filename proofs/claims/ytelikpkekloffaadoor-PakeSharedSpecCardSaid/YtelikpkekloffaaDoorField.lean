/- field.Add and field.Mul of this program, walked at scalars. -/
import Derived.Test.YtelikpkekloffaaDoorTimes
import Derived.Test.YtelikpkekloffaaDoorFieldO
namespace Go.Proofs.YtelikpkekloffaaDoor
open Go.RowKit

theorem div64_Q (hi lo : Nat) (h1 : hi < 2305843009213688669) (hl : lo < 18446744073709551616) (w : World) :
    Calls Tryd.prog 96 #[.int .u64 hi, .int .u64 lo, .int .u64 2305843009213688669] w fun e w' => ∃ q : Int, e = .returned (.tuple #[.int .u64 q, .int .u64 ((hi * 18446744073709551616 + lo) % 2305843009213688669 : Nat)]) ∧ ∃ n, w' = w.drewN n :=
  div64_any hi lo 2305843009213688669 h1 hl (by decide) w

set_option maxHeartbeats 1000000 in
theorem fproduct_any (a b : Nat) (ha : a < 2305843009213688669) (hb : b < 2305843009213688669) (w : World) :
    Calls Tryd.prog 91 #[.int .i64 a, .int .i64 b] w fun e w' => e = .returned (.int .i64 (Gp.mu 2305843009213688669 a b : Nat)) ∧ ∃ n, w' = w.drewN n := by
  have c1 := mul64_any a b (by omega) (by omega) w
  have hm : a * b / 18446744073709551616 < 2305843009213688669 := by
    have := Nat.mul_le_mul (Nat.le_of_lt ha) (Nat.le_of_lt hb)
    rw [Nat.div_lt_iff_lt_mul (by decide)]
    omega
  have c2 := div64_Q (a * b / 18446744073709551616) (a * b % 18446744073709551616) hm (Nat.mod_lt _ (by decide)) w
  rw [hi_lo] at c2
  obtain ⟨r, hr⟩ : ∃ r, r = Gp.mu 2305843009213688669 a b := ⟨_, rfl⟩
  rw [← hr]
  have hrr : a * b % 2305843009213688669 = r := hr.symm
  rw [hrr] at c2
  have b5 : (r : Int) < 2305843009213688669 := by have : r < 2305843009213688669 := by (rw [hr]; exact Gp.mu_lt (by decide))
                                                  omega
  have b3 : (a : Int) < 2305843009213688669 := by omega
  have b4 : (b : Int) < 2305843009213688669 := by omega
  have C1 := Lib.hid c1
  have C2 := Lib.hid c2
  clear c1 c2 hm ha hb hr hrr
  go_enter Tryd.func91, Tryd.ntmps91
  go_wp2_with fail
  refine C1.out.mono ?_
  rintro e w1 ⟨rfl, rfl⟩
  go_wp2_with fail
  refine C2.out.mono ?_
  rintro e w2 ⟨q, rfl, n, rfl⟩
  go_wp2_with fail
  go_ret
  exact ⟨rfl, n, rfl⟩

/-- two numbers in a new block. -/
def two (x y : Int) (i : Nat) : Int := if i = 0 then x else y
theorem two_cell (w : World) (x y : Int) (i : Nat) (h : i < 2) : (w.alloc (.cells #[.int .i64 x, .int .i64 y] 3)).cell? ⟨w.heap.size, i, none⟩ = some (.int .i64 (two x y i)) := by
  match i, h with
  | 0, _ => simp [World.cell?_alloc_new, two]
  | 1, _ => simp [World.cell?_alloc_new, two]
theorem two_sc (j k : Nat) (hj : j < 2305843009213688669) (hk : k < 2305843009213688669) (i : Nat) (h : i < 2) : Gp.isSc (two j k i) = true := by
  match i, h with
  | 0, _ => exact Gp.isSc_of hj
  | 1, _ => exact Gp.isSc_of hk

theorem outside_two (j k : Nat) (hj : j < 2305843009213688669) (hk : k < 2305843009213688669) (w : World) :
    Calls Tryd.prog 65 #[.slice (some ⟨w.heap.size, 0, none⟩) 2 2] (w.alloc (.cells #[.int .i64 j, .int .i64 k] 3)) fun e w' => e = .returned (.bool false) ∧ w' = w.alloc (.cells #[.int .i64 j, .int .i64 k] 3) :=
  outside_no w.heap.size 2 (two j k) (by decide) (two_sc j k hj hk) _ (two_cell w j k)

set_option maxHeartbeats 1000000 in
theorem fadd_ok (j k : Nat) (hj : j < 2305843009213688669) (hk : k < 2305843009213688669) (w : World) :
    Calls Tryd.prog 85 #[.int .i64 j, .int .i64 k] w fun e w' => e = .returned (.tuple #[.int .i64 ((j + k) % 2305843009213688669 : Nat), .int .i64 0]) ∧ Below w.heap.size w w' := by
  have C1 := Lib.hid (outside_two j k hj hk w)
  obtain ⟨r, hr⟩ : ∃ r, r = (j + k) % 2305843009213688669 := ⟨_, rfl⟩
  rw [← hr]
  have e1 : ((j : Int) + k) % 2305843009213688669 = (r : Int) := by omega
  have E1 := Lib.hid e1
  have b3 : (j : Int) < 2305843009213688669 := by omega
  have b4 : (k : Int) < 2305843009213688669 := by omega
  clear hj hk hr e1
  go_enter Tryd.func85, Tryd.ntmps85
  go_wp2_with fail
  refine C1.out.mono ?_
  rintro e w1 ⟨rfl, rfl⟩
  go_wp2_with fail
  go_ret2
  exact ⟨by rw [← E1.out]; rfl, (Below.refl _ _).alloc (Nat.le_refl _) _⟩

set_option maxHeartbeats 1000000 in
theorem fmul_ok (j k : Nat) (hj : j < 2305843009213688669) (hk : k < 2305843009213688669) (w : World) :
    Calls Tryd.prog 59 #[.int .i64 j, .int .i64 k] w fun e w' => e = .returned (.tuple #[.int .i64 (Gp.mu 2305843009213688669 j k : Nat), .int .i64 0]) ∧ Below w.heap.size w w' := by
  have C1 := Lib.hid (outside_two j k hj hk w)
  have C2 := Lib.hid (fun w => fproduct_any j k hj hk w)
  generalize Gp.mu 2305843009213688669 j k = r at *
  clear hj hk
  go_enter Tryd.func59, Tryd.ntmps59
  go_wp2_with fail
  refine C1.out.mono ?_
  rintro e w1 ⟨rfl, rfl⟩
  go_wp2_with fail
  refine (C2.out _).mono ?_
  rintro e w1 ⟨rfl, n, rfl⟩
  go_wp2_with fail
  go_ret2
  exact ⟨rfl, below_drewN ((Below.refl _ _).alloc (Nat.le_refl _) _) n⟩
end Go.Proofs.YtelikpkekloffaaDoor
