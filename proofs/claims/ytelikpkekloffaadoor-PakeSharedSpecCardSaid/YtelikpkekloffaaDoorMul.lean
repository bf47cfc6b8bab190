/- group.Mul of this program, walked, at every value of its parameters. -/
import Derived.Test.YtelikpkekloffaaDoorGroup
namespace Go.Proofs.YtelikpkekloffaaDoor
open Go.RowKit

set_option maxRecDepth 100000 in
set_option maxHeartbeats 1000000 in
theorem mul_ok (a b : Int) (h : Gp.isEl a = true) (hb : Gp.isEl b = true) (w : World) :
    Calls Tryd.prog 26 #[.int .i64 a, .int .i64 b] w fun e w' => e = .returned (.tuple #[.int .i64 (Gp.mu 4611686018427377339 a.toNat b.toNat : Nat), .int .i64 0]) ∧ Below w.heap.size w w' := by
  have C1 := Lib.hid (fun w => check_ok a h w)
  have C2 := Lib.hid (fun w => check_ok b hb w)
  obtain ⟨n, rfl, h1, h2, h3⟩ := Gp.isEl_nat h
  obtain ⟨j, rfl, g1, g2, g3⟩ := Gp.isEl_nat hb
  rw [Int.toNat_natCast, Int.toNat_natCast]
  have c3 := fun w1 => times_any n j h2 g2 w1
  have hr : Gp.mu 4611686018427377339 n j < 4611686018427377339 := Gp.mu_lt (by decide)
  generalize Gp.mu 4611686018427377339 n j = r at *
  have C3 := Lib.hid c3
  have i0 : ∀ w, (Instr.index 77 (.agg #[.int .i64 n, .int .i64 j]) (.int .i64 0)).run Tryd.prog w = .ok (.int .i64 n) w := fun _ => by kernel_rfl
  have i1 : ∀ w, (Instr.index 77 (.agg #[.int .i64 n, .int .i64 j]) (.int .i64 1)).run Tryd.prog w = .ok (.int .i64 j) w := fun _ => by kernel_rfl
  have b3 : (n : Int) < 4611686018427377339 := by omega
  have b4 : (j : Int) < 4611686018427377339 := by omega
  have b5 : (r : Int) < 4611686018427377339 := by omega
  clear c3 h h1 h2 h3 hb g1 g2 g3 hr
  go_enter Tryd.func26, Tryd.ntmps26
  go_wp2_with fail
  go_loopg [12] 2 (fun m x wr => ∃ i : Nat, i + m = 2 ∧ x = .int .i64 i ∧ Below w.heap.size w wr)
  case atStart => exact ⟨0, rfl, rfl, Below.refl _ _⟩
  case round =>
    obtain ⟨i, hi, rfl, hB⟩ := hrel
    by_cases e0 : i = 0
    · subst e0
      have HI := Lib.hid hi
      clear hi
      go_wp2_with fail
      refine (C1.out _).mono ?_
      rintro e w1 ⟨rfl, hb1⟩
      go_wp2_with fail
      go_roundg 1
      case rel => exact ⟨1, rfl, rfl, hB.trans (hb1.mono hB.size)⟩
      case measure => have := HI.out; omega
    · by_cases e1 : i = 1
      · subst e1
        have HI := Lib.hid hi
        clear hi e0
        go_wp2_with fail
        refine (C2.out _).mono ?_
        rintro e w1 ⟨rfl, hb1⟩
        go_wp2_with fail
        go_roundg 0
        case rel => exact ⟨2, rfl, rfl, hB.trans (hb1.mono hB.size)⟩
        case measure => have := HI.out; omega
      · obtain rfl : i = 2 := by omega
        clear hi e0 e1
        go_wp2_with fail
        refine (C3.out _).mono ?_
        rintro e w1 ⟨rfl, q, rfl⟩
        go_wp2_with fail
        go_ret2
        exact ⟨rfl, below_drewN hB q⟩

set_option maxRecDepth 100000 in
set_option maxHeartbeats 1000000 in
theorem mul_no (a b : Int) (h : Gp.isEl a = false) (w : World) :
    Calls Tryd.prog 26 #[.int .i64 a, .int .i64 b] w fun e w' => e = .returned (.tuple #[.int .i64 0, .int .i64 40]) ∧ Below w.heap.size w w' := by
  have C1 := Lib.hid (fun w => check_no a h w)
  have i0 : ∀ w, (Instr.index 77 (.agg #[.int .i64 a, .int .i64 b]) (.int .i64 0)).run Tryd.prog w = .ok (.int .i64 a) w := fun _ => by kernel_rfl
  clear h
  go_enter Tryd.func26, Tryd.ntmps26
  go_wp2_with fail
  go_loopg [12] 0 (fun m x wr => x = .int .i64 0 ∧ wr = w)
  case atStart => exact ⟨rfl, rfl⟩
  case round =>
    obtain ⟨rfl, rfl⟩ := hrel
    go_wp2_with fail
    refine (C1.out _).mono ?_
    rintro e w1 ⟨rfl, hb1⟩
    go_wp2_with fail
    go_ret2
    exact ⟨rfl, hb1⟩

set_option maxRecDepth 100000 in
set_option maxHeartbeats 1000000 in
theorem mul_no2 (a b : Int) (h : Gp.isEl a = true) (hb : Gp.isEl b = false) (w : World) :
    Calls Tryd.prog 26 #[.int .i64 a, .int .i64 b] w fun e w' => e = .returned (.tuple #[.int .i64 0, .int .i64 40]) ∧ Below w.heap.size w w' := by
  have C1 := Lib.hid (fun w => check_ok a h w)
  have C2 := Lib.hid (fun w => check_no b hb w)
  have i0 : ∀ w, (Instr.index 77 (.agg #[.int .i64 a, .int .i64 b]) (.int .i64 0)).run Tryd.prog w = .ok (.int .i64 a) w := fun _ => by kernel_rfl
  have i1 : ∀ w, (Instr.index 77 (.agg #[.int .i64 a, .int .i64 b]) (.int .i64 1)).run Tryd.prog w = .ok (.int .i64 b) w := fun _ => by kernel_rfl
  clear h hb
  go_enter Tryd.func26, Tryd.ntmps26
  go_wp2_with fail
  go_loopg [12] 1 (fun m x wr => ∃ i : Nat, i + m = 1 ∧ x = .int .i64 i ∧ Below w.heap.size w wr)
  case atStart => exact ⟨0, rfl, rfl, Below.refl _ _⟩
  case round =>
    obtain ⟨i, hi, rfl, hB⟩ := hrel
    by_cases e0 : i = 0
    · subst e0
      have HI := Lib.hid hi
      clear hi
      go_wp2_with fail
      refine (C1.out _).mono ?_
      rintro e w1 ⟨rfl, hb1⟩
      go_wp2_with fail
      go_roundg 0
      case rel => exact ⟨1, rfl, rfl, hB.trans (hb1.mono hB.size)⟩
      case measure => have := HI.out; omega
    · obtain rfl : i = 1 := by omega
      clear hi e0
      go_wp2_with fail
      refine (C2.out _).mono ?_
      rintro e w1 ⟨rfl, hb1⟩
      go_wp2_with fail
      go_ret2
      exact ⟨rfl, hB.trans (hb1.mono hB.size)⟩

theorem mul_any (a b : Int) (w : World) :
    Calls Tryd.prog 26 #[.int .i64 a, .int .i64 b] w fun e w' => e = .returned (.tuple #[.int .i64 (Gp.gMul a b).1, .int .i64 (Gp.gMul a b).2]) ∧ Below w.heap.size w w' := by
  unfold Gp.gMul
  cases h : Gp.isEl a
  · exact mul_no a b h w
  · cases hb : Gp.isEl b
    · exact mul_no2 a b h hb w
    · exact mul_ok a b h hb w
end Go.Proofs.YtelikpkekloffaaDoor
