/- The reference's Check, Mul, Inv, IsScalar, Exp, Base of chapter 4, walked, at every value of their parameters; the world stays. -/
import Derived.Test.YtelikpkekloffaaDoorRefP
import Derived.Test.YtelikpkekloffaaDoorEl
namespace Go.Proofs.YtelikpkekloffaaDoor
open Go.RowKit

set_option maxHeartbeats 1000000 in
theorem rcheck_ok (a : Int) (h : Gp.isEl a = true) (w : World) :
    Calls Tryd.prog 78 #[.int .i64 a] w fun e w' => e = .returned (.int .i64 0) ∧ w' = w := by
  obtain ⟨n, rfl, h1, h2, h3⟩ := Gp.isEl_nat h
  have c1 := rpower_any n 2305843009213688669 h2 (by decide) w
  rw [h3] at c1
  have C1 : Hid (Calls Tryd.prog 102 #[.int .i64 n, .int .i64 2305843009213688669] w fun e w' => e = .returned (.int .i64 1) ∧ w' = w) := Lib.hid c1
  have b1 : decide ((n : Int) < 1) = false := by rw [decide_eq_false_iff_not]; omega
  have b2 : decide (4611686018427377339 ≤ (n : Int)) = false := by rw [decide_eq_false_iff_not]; omega
  clear c1 h h1 h2 h3
  go_enter Tryd.func78, Tryd.ntmps78
  go_wp2_with fail
  refine C1.out.mono ?_
  rintro e w1 ⟨rfl, rfl⟩
  go_wp2_with fail
  go_ret
  exact ⟨rfl, rfl⟩

set_option maxHeartbeats 1000000 in
theorem rcheck_no (a : Int) (h : Gp.isEl a = false) (w : World) :
    Calls Tryd.prog 78 #[.int .i64 a] w fun e w' => e = .returned (.int .i64 40) ∧ w' = w := by
  rcases Gp.isEl_cases a with h1 | h1 | ⟨n, rfl, h1, h2, h3⟩
  · clear h
    have t1 : decide (a < 1) = true := by rw [decide_eq_true_eq]; omega
    clear h1
    go_enter Tryd.func78, Tryd.ntmps78
    go_wp2_with fail
    go_ret
    exact ⟨rfl, rfl⟩
  · clear h
    have t1 : decide (a < 1) = false := by rw [decide_eq_false_iff_not]; omega
    have t2 : decide (4611686018427377339 ≤ a) = true := by rw [decide_eq_true_eq]; omega
    clear h1
    go_enter Tryd.func78, Tryd.ntmps78
    go_wp2_with fail
    go_ret
    exact ⟨rfl, rfl⟩
  · have c1 := rpower_any n 2305843009213688669 h2 (by decide) w
    rw [h3] at h
    generalize Gp.pw 4611686018427377339 n 2305843009213688669 = r at *
    have t1 : ((r : Int) != 1) = true := by
      have : r ≠ 1 := by simpa using h
      rw [bne_iff_ne]; omega
    have C1 : Hid (Calls Tryd.prog 102 #[.int .i64 n, .int .i64 2305843009213688669] w fun e w' => e = .returned (.int .i64 r) ∧ w' = w) := Lib.hid c1
    have b1 : decide ((n : Int) < 1) = false := by rw [decide_eq_false_iff_not]; omega
    have b2 : decide (4611686018427377339 ≤ (n : Int)) = false := by rw [decide_eq_false_iff_not]; omega
    clear c1 h h1 h2 h3
    go_enter Tryd.func78, Tryd.ntmps78
    go_wp2_with fail
    refine C1.out.mono ?_
    rintro e w1 ⟨rfl, rfl⟩
    go_wp2_with fail
    go_ret
    exact ⟨rfl, rfl⟩

theorem rcheck_any (a : Int) (w : World) :
    Calls Tryd.prog 78 #[.int .i64 a] w fun e w' => e = .returned (.int .i64 (Gp.gChk a)) ∧ w' = w := by
  unfold Gp.gChk
  cases h : Gp.isEl a
  · exact rcheck_no a h w
  · exact rcheck_ok a h w

set_option maxHeartbeats 1000000 in
theorem isscalar_any (k : Int) (w : World) :
    Calls Tryd.prog 103 #[.int .i64 k] w fun e w' => e = .returned (.bool (Gp.isSc k)) ∧ w' = w := by
  cases h : Gp.isSc k
  · rcases Gp.isSc_not h with h1 | ⟨h0, h1⟩
    · have t1 : decide (0 ≤ k) = false := by rw [decide_eq_false_iff_not]; omega
      clear h h1
      go_enter Tryd.func103, Tryd.ntmps103
      go_wp2_with fail
      go_ret
      exact ⟨rfl, rfl⟩
    · have t1 : decide (0 ≤ k) = true := by rw [decide_eq_true_eq]; omega
      have t2 : decide (k < 2305843009213688669) = false := by rw [decide_eq_false_iff_not]; omega
      clear h h1 h0
      go_enter Tryd.func103, Tryd.ntmps103
      go_wp2_with fail
      go_ret
      exact ⟨rfl, rfl⟩
  · obtain ⟨n, rfl, h1⟩ := Gp.isSc_nat h
    have t2 : decide ((n : Int) < 2305843009213688669) = true := by rw [decide_eq_true_eq]; omega
    clear h h1
    go_enter Tryd.func103, Tryd.ntmps103
    go_wp2_with fail
    go_ret
    exact ⟨rfl, rfl⟩

set_option maxHeartbeats 1000000 in
theorem rexp_ok (a k : Int) (h : Gp.isEl a = true) (hk : Gp.isSc k = true) (w : World) :
    Calls Tryd.prog 74 #[.int .i64 a, .int .i64 k] w fun e w' => e = .returned (.tuple #[.int .i64 (Gp.pw 4611686018427377339 a.toNat k.toNat : Nat), .int .i64 0]) ∧ w' = w := by
  have c1 := rcheck_ok a h w
  have c3 := isscalar_any k w
  rw [hk] at c3
  obtain ⟨n, rfl, h1, h2, h3⟩ := Gp.isEl_nat h
  obtain ⟨j, rfl, hj⟩ := Gp.isSc_nat hk
  rw [Int.toNat_natCast, Int.toNat_natCast]
  have c2 := rpower_any n j h2 (by omega) w
  generalize Gp.pw 4611686018427377339 n j = r at *
  have C1 := Lib.hid c1
  have C2 := Lib.hid c2
  have C3 := Lib.hid c3
  clear c1 c2 c3 h h1 h2 h3 hk hj
  go_enter Tryd.func74, Tryd.ntmps74
  go_wp2_with fail
  refine C1.out.mono ?_
  rintro e w1 ⟨rfl, rfl⟩
  go_wp2_with fail
  refine C3.out.mono ?_
  rintro e w1 ⟨rfl, rfl⟩
  go_wp2_with fail
  refine C2.out.mono ?_
  rintro e w2 ⟨rfl, rfl⟩
  go_wp2_with fail
  go_ret2
  exact ⟨rfl, rfl⟩

set_option maxHeartbeats 1000000 in
theorem rexp_any (a k : Int) (w : World) :
    Calls Tryd.prog 74 #[.int .i64 a, .int .i64 k] w fun e w' => e = .returned (.tuple #[.int .i64 (Gp.gExp a k).1, .int .i64 (Gp.gExp a k).2]) ∧ w' = w := by
  unfold Gp.gExp
  cases h : Gp.isEl a
  · have C1 := Lib.hid (rcheck_no a h w)
    clear h
    go_enter Tryd.func74, Tryd.ntmps74
    go_wp2_with fail
    refine C1.out.mono ?_
    rintro e w1 ⟨rfl, rfl⟩
    go_wp2_with fail
    go_ret2
    exact ⟨rfl, rfl⟩
  · cases hk : Gp.isSc k
    · have C1 := Lib.hid (rcheck_ok a h w)
      have c3 := isscalar_any k w
      rw [hk] at c3
      have C3 := Lib.hid c3
      clear h hk c3
      go_enter Tryd.func74, Tryd.ntmps74
      go_wp2_with fail
      refine C1.out.mono ?_
      rintro e w1 ⟨rfl, rfl⟩
      go_wp2_with fail
      refine C3.out.mono ?_
      rintro e w1 ⟨rfl, rfl⟩
      go_wp2_with fail
      go_ret2
      exact ⟨rfl, rfl⟩
    · exact rexp_ok a k h hk w

set_option maxHeartbeats 1000000 in
theorem rbase_any (k : Int) (w : World) :
    Calls Tryd.prog 77 #[.int .i64 k] w fun e w' => e = .returned (.tuple #[.int .i64 (Gp.gExp 4 k).1, .int .i64 (Gp.gExp 4 k).2]) ∧ w' = w := by
  have C1 := Lib.hid (rexp_any 4 k w)
  generalize Gp.gExp 4 k = r at *
  go_enter Tryd.func77, Tryd.ntmps77
  go_wp2_with fail
  refine C1.out.mono ?_
  rintro e w1 ⟨rfl, rfl⟩
  go_wp2_with fail
  go_ret2
  exact ⟨rfl, rfl⟩

theorem gExp_inv_ok {a : Int} (h : Gp.isEl a = true) : Gp.gExp a 2305843009213688668 = (((Gp.pw 4611686018427377339 a.toNat 2305843009213688668 : Nat) : Int), 0) := by
  have e : Gp.isSc 2305843009213688668 = true := by decide
  unfold Gp.gExp
  rw [h, e]
  rfl
theorem gExp_no {a k : Int} (h : Gp.isEl a = false) : Gp.gExp a k = (0, 40) := by
  unfold Gp.gExp
  rw [h]
  rfl

set_option maxHeartbeats 1000000 in
theorem rinv_any (a : Int) (w : World) :
    Calls Tryd.prog 71 #[.int .i64 a] w fun e w' => e = .returned (.tuple #[.int .i64 (Gp.gExp a 2305843009213688668).1, .int .i64 (Gp.gExp a 2305843009213688668).2]) ∧ w' = w := by
  cases h : Gp.isEl a
  · rw [gExp_no h]
    have C1 := Lib.hid (rcheck_no a h w)
    clear h
    go_enter Tryd.func71, Tryd.ntmps71
    go_wp2_with fail
    refine C1.out.mono ?_
    rintro e w1 ⟨rfl, rfl⟩
    go_wp2_with fail
    go_ret2
    exact ⟨rfl, rfl⟩
  · rw [gExp_inv_ok h]
    have C1 := Lib.hid (rcheck_ok a h w)
    obtain ⟨n, rfl, h1, h2, h3⟩ := Gp.isEl_nat h
    rw [Int.toNat_natCast]
    have c2 : Calls Tryd.prog 102 #[.int .i64 n, .int .i64 2305843009213688668] w fun e w' => e = .returned (.int .i64 (Gp.pw 4611686018427377339 n 2305843009213688668 : Nat)) ∧ w' = w :=
      rpower_any n 2305843009213688668 h2 (by decide) w
    generalize Gp.pw 4611686018427377339 n 2305843009213688668 = r at *
    have C2 := Lib.hid c2
    clear h h1 h2 h3 c2
    go_enter Tryd.func71, Tryd.ntmps71
    go_wp2_with fail
    refine C1.out.mono ?_
    rintro e w1 ⟨rfl, rfl⟩
    go_wp2_with fail
    refine C2.out.mono ?_
    rintro e w1 ⟨rfl, rfl⟩
    go_wp2_with fail
    go_ret2
    exact ⟨rfl, rfl⟩

set_option maxHeartbeats 1000000 in
theorem rmul_any (a b : Int) (w : World) :
    Calls Tryd.prog 73 #[.int .i64 a, .int .i64 b] w fun e w' => e = .returned (.tuple #[.int .i64 (Gp.gMul a b).1, .int .i64 (Gp.gMul a b).2]) ∧ w' = w := by
  unfold Gp.gMul
  cases h : Gp.isEl a
  · have C1 := Lib.hid (rcheck_no a h w)
    clear h
    go_enter Tryd.func73, Tryd.ntmps73
    go_wp2_with fail
    refine C1.out.mono ?_
    rintro e w1 ⟨rfl, rfl⟩
    go_wp2_with fail
    go_ret2
    exact ⟨rfl, rfl⟩
  · cases hb : Gp.isEl b
    · have C1 := Lib.hid (rcheck_ok a h w)
      have C2 := Lib.hid (rcheck_no b hb w)
      clear h hb
      go_enter Tryd.func73, Tryd.ntmps73
      go_wp2_with fail
      refine C1.out.mono ?_
      rintro e w1 ⟨rfl, rfl⟩
      go_wp2_with fail
      refine C2.out.mono ?_
      rintro e w1 ⟨rfl, rfl⟩
      go_wp2_with fail
      go_ret2
      exact ⟨rfl, rfl⟩
    · have C1 := Lib.hid (rcheck_ok a h w)
      have C2 := Lib.hid (rcheck_ok b hb w)
      obtain ⟨n, rfl, h1, h2, h3⟩ := Gp.isEl_nat h
      obtain ⟨j, rfl, g1, g2, g3⟩ := Gp.isEl_nat hb
      have c3 := product_P n j h2 (by omega) w
      have hif : ((if true = true then if true = true then (((Gp.mu 4611686018427377339 (n : Int).toNat (j : Int).toNat : Nat) : Int), (0 : Int)) else (0, 40) else (0, 40)) : Int × Int) = (((Gp.mu 4611686018427377339 n j : Nat) : Int), 0) := by
        rw [Int.toNat_natCast, Int.toNat_natCast]; rfl
      rw [hif]
      generalize Gp.mu 4611686018427377339 n j = r at *
      have C3 := Lib.hid c3
      clear h h1 h2 h3 hb g1 g2 g3 c3 hif
      go_enter Tryd.func73, Tryd.ntmps73
      go_wp2_with fail
      refine C1.out.mono ?_
      rintro e w1 ⟨rfl, rfl⟩
      go_wp2_with fail
      refine C2.out.mono ?_
      rintro e w1 ⟨rfl, rfl⟩
      go_wp2_with fail
      refine C3.out.mono ?_
      rintro e w1 ⟨rfl, rfl⟩
      go_wp2_with fail
      go_ret2
      exact ⟨rfl, rfl⟩
end Go.Proofs.YtelikpkekloffaaDoor
