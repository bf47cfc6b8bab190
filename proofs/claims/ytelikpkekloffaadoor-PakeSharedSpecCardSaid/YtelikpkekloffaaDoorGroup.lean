/- group.Check, Mul, Exp, Inv, Base of this program, walked, at every value of their parameters. -/
import Derived.Test.YtelikpkekloffaaDoorPower
import Derived.Test.YtelikpkekloffaaDoorEl
namespace Go.Proofs.YtelikpkekloffaaDoor
open Go.RowKit

set_option maxHeartbeats 1000000 in
theorem check_ok (a : Int) (h : Gp.isEl a = true) (w : World) :
    Calls Tryd.prog 39 #[.int .i64 a] w fun e w' => e = .returned (.int .i64 0) ∧ Below w.heap.size w w' := by
  obtain ⟨n, rfl, h1, h2, h3⟩ := Gp.isEl_nat h
  have c1 := power_any n 2305843009213688669 h2 (by decide) w
  rw [h3] at c1
  have C1 : Hid (Calls Tryd.prog 63 #[.int .u64 n, .int .u64 2305843009213688669] w fun e w' => e = .returned (.int .u64 1) ∧ Below w.heap.size w w') := Lib.hid c1
  have b1 : decide ((n : Int) < 1) = false := by rw [decide_eq_false_iff_not]; omega
  have b2 : decide (4611686018427377339 ≤ (n : Int)) = false := by rw [decide_eq_false_iff_not]; omega
  have b3 : (n : Int) < 4611686018427377339 := by omega
  clear c1 h h1 h2 h3
  go_enter Tryd.func39, Tryd.ntmps39
  go_wp2_with fail
  refine C1.out.mono ?_
  rintro e w1 ⟨rfl, hb⟩
  go_wp2_with fail
  go_ret
  exact ⟨rfl, hb⟩

set_option maxHeartbeats 1000000 in
theorem check_no (a : Int) (h : Gp.isEl a = false) (w : World) :
    Calls Tryd.prog 39 #[.int .i64 a] w fun e w' => e = .returned (.int .i64 40) ∧ Below w.heap.size w w' := by
  rcases Gp.isEl_cases a with h1 | h1 | ⟨n, rfl, h1, h2, h3⟩
  · clear h
    have t1 : decide (a < 1) = true := by rw [decide_eq_true_eq]; omega
    clear h1
    go_enter Tryd.func39, Tryd.ntmps39
    go_wp2_with fail
    go_ret
    exact ⟨rfl, Below.refl _ _⟩
  · clear h
    have t1 : decide (a < 1) = false := by rw [decide_eq_false_iff_not]; omega
    have t2 : decide (4611686018427377339 ≤ a) = true := by rw [decide_eq_true_eq]; omega
    clear h1
    go_enter Tryd.func39, Tryd.ntmps39
    go_wp2_with fail
    go_ret
    exact ⟨rfl, Below.refl _ _⟩
  · have c1 := power_any n 2305843009213688669 h2 (by decide) w
    rw [h3] at h
    generalize Gp.pw 4611686018427377339 n 2305843009213688669 = r at *
    have t1 : ((r : Int) != 1) = true := by
      have : r ≠ 1 := by simpa using h
      rw [bne_iff_ne]; omega
    have C1 : Hid (Calls Tryd.prog 63 #[.int .u64 n, .int .u64 2305843009213688669] w fun e w' => e = .returned (.int .u64 r) ∧ Below w.heap.size w w') := Lib.hid c1
    have b1 : decide ((n : Int) < 1) = false := by rw [decide_eq_false_iff_not]; omega
    have b2 : decide (4611686018427377339 ≤ (n : Int)) = false := by rw [decide_eq_false_iff_not]; omega
    have b3 : (n : Int) < 4611686018427377339 := by omega
    clear c1 h h1 h2 h3
    go_enter Tryd.func39, Tryd.ntmps39
    go_wp2_with fail
    refine C1.out.mono ?_
    rintro e w1 ⟨rfl, hb⟩
    go_wp2_with fail
    go_ret
    exact ⟨rfl, hb⟩

theorem check_any (a : Int) (w : World) :
    Calls Tryd.prog 39 #[.int .i64 a] w fun e w' => e = .returned (.int .i64 (Gp.gChk a)) ∧ Below w.heap.size w w' := by
  unfold Gp.gChk
  cases h : Gp.isEl a
  · exact check_no a h w
  · exact check_ok a h w

/-- a contract of one result with the world below kept, on its way from an earlier world. -/
theorem int_eq {k : IntKind} {a b : Int} (h : a = b) : Value.int k a = Value.int k b := by rw [h]

set_option maxRecDepth 100000 in
set_option maxHeartbeats 1000000 in
theorem exp_ok (a k : Int) (h : Gp.isEl a = true) (hk : Gp.isSc k = true) (w : World) :
    Calls Tryd.prog 22 #[.int .i64 a, .int .i64 k] w fun e w' => e = .returned (.tuple #[.int .i64 (Gp.pw 4611686018427377339 a.toNat k.toNat : Nat), .int .i64 0]) ∧ Below w.heap.size w w' := by
  have c1 := check_ok a h w
  obtain ⟨n, rfl, h1, h2, h3⟩ := Gp.isEl_nat h
  obtain ⟨j, rfl, hj⟩ := Gp.isSc_nat hk
  rw [Int.toNat_natCast, Int.toNat_natCast]
  have c2 := fun w1 => power_any n j h2 (by omega) w1
  have hr : Gp.pw 4611686018427377339 n j < 4611686018427377339 := Gp.pw_lt (by decide)
  generalize Gp.pw 4611686018427377339 n j = r at *
  have C1 := Lib.hid c1
  have C2 := Lib.hid c2
  have b1 : decide ((j : Int) < 0) = false := by rw [decide_eq_false_iff_not]; omega
  have b2 : decide (2305843009213688669 ≤ (j : Int)) = false := by rw [decide_eq_false_iff_not]; omega
  have b3 : (n : Int) < 4611686018427377339 := by omega
  have b4 : (j : Int) < 4611686018427377339 := by omega
  have b5 : (r : Int) < 4611686018427377339 := by omega
  clear c1 c2 h h1 h2 h3 hk hj hr
  go_enter Tryd.func22, Tryd.ntmps22
  go_wp2_with fail
  refine C1.out.mono ?_
  rintro e w1 ⟨rfl, hb1⟩
  go_wp2_with fail
  refine (C2.out _).mono ?_
  rintro e w2 ⟨rfl, hb2⟩
  go_wp2_with fail
  go_ret2
  exact ⟨rfl, hb1.trans (hb2.mono hb1.size)⟩

set_option maxHeartbeats 1000000 in
theorem exp_no (a k : Int) (h : Gp.isEl a = false) (w : World) :
    Calls Tryd.prog 22 #[.int .i64 a, .int .i64 k] w fun e w' => e = .returned (.tuple #[.int .i64 0, .int .i64 40]) ∧ Below w.heap.size w w' := by
  have C1 := Lib.hid (check_no a h w)
  clear h
  go_enter Tryd.func22, Tryd.ntmps22
  go_wp2_with fail
  refine C1.out.mono ?_
  rintro e w1 ⟨rfl, hb1⟩
  go_wp2_with fail
  go_ret2
  exact ⟨rfl, hb1⟩

set_option maxHeartbeats 1000000 in
theorem exp_arg (a k : Int) (h : Gp.isEl a = true) (hk : Gp.isSc k = false) (w : World) :
    Calls Tryd.prog 22 #[.int .i64 a, .int .i64 k] w fun e w' => e = .returned (.tuple #[.int .i64 0, .int .i64 1]) ∧ Below w.heap.size w w' := by
  have C1 := Lib.hid (check_ok a h w)
  clear h
  rcases Gp.isSc_not hk with hk | ⟨hk0, hk⟩
  · have b1 : decide (k < 0) = true := by rw [decide_eq_true_eq]; omega
    clear hk
    go_enter Tryd.func22, Tryd.ntmps22
    go_wp2_with fail
    refine C1.out.mono ?_
    rintro e w1 ⟨rfl, hb1⟩
    go_wp2_with fail
    go_ret2
    exact ⟨rfl, hb1⟩
  · have b1 : decide (k < 0) = false := by rw [decide_eq_false_iff_not]; omega
    have b2 : decide (2305843009213688669 ≤ k) = true := by rw [decide_eq_true_eq]; omega
    clear hk hk0
    go_enter Tryd.func22, Tryd.ntmps22
    go_wp2_with fail
    refine C1.out.mono ?_
    rintro e w1 ⟨rfl, hb1⟩
    go_wp2_with fail
    go_ret2
    exact ⟨rfl, hb1⟩

theorem exp_any (a k : Int) (w : World) :
    Calls Tryd.prog 22 #[.int .i64 a, .int .i64 k] w fun e w' => e = .returned (.tuple #[.int .i64 (Gp.gExp a k).1, .int .i64 (Gp.gExp a k).2]) ∧ Below w.heap.size w w' := by
  unfold Gp.gExp
  cases h : Gp.isEl a
  · exact exp_no a k h w
  · cases hk : Gp.isSc k
    · exact exp_arg a k h hk w
    · exact exp_ok a k h hk w

set_option maxHeartbeats 1000000 in
theorem inv_any (a : Int) (w : World) :
    Calls Tryd.prog 25 #[.int .i64 a] w fun e w' => e = .returned (.tuple #[.int .i64 (Gp.gExp a 2305843009213688668).1, .int .i64 (Gp.gExp a 2305843009213688668).2]) ∧ Below w.heap.size w w' := by
  have C1 := Lib.hid (exp_any a 2305843009213688668 w)
  generalize Gp.gExp a 2305843009213688668 = r at *
  go_enter Tryd.func25, Tryd.ntmps25
  go_wp2_with fail
  refine C1.out.mono ?_
  rintro e w1 ⟨rfl, hb1⟩
  go_wp2_with fail
  go_ret2
  exact ⟨rfl, hb1⟩

set_option maxHeartbeats 1000000 in
theorem base_any (k : Int) (w : World) :
    Calls Tryd.prog 27 #[.int .i64 k] w fun e w' => e = .returned (.tuple #[.int .i64 (Gp.gExp 4 k).1, .int .i64 (Gp.gExp 4 k).2]) ∧ Below w.heap.size w w' := by
  have C1 := Lib.hid (exp_any 4 k w)
  generalize Gp.gExp 4 k = r at *
  go_enter Tryd.func27, Tryd.ntmps27
  go_wp2_with fail
  refine C1.out.mono ?_
  rintro e w1 ⟨rfl, hb1⟩
  go_wp2_with fail
  go_ret2
  exact ⟨rfl, hb1⟩
end Go.Proofs.YtelikpkekloffaaDoor
