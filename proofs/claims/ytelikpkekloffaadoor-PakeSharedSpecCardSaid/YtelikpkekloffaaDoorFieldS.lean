/- field.Sub and field.Check of this program, walked. -/
import Derived.Test.YtelikpkekloffaaDoorField
namespace Go.Proofs.YtelikpkekloffaaDoor
open Go.RowKit

set_option maxHeartbeats 1000000 in
theorem fsub_ok (j k : Nat) (hj : j < 2305843009213688669) (hk : k < 2305843009213688669) (w : World) :
    Calls Tryd.prog 28 #[.int .i64 j, .int .i64 k] w fun e w' => e = .returned (.tuple #[.int .i64 ((j + (2305843009213688669 - k)) % 2305843009213688669 : Nat), .int .i64 0]) ∧ Below w.heap.size w w' := by
  have C1 := Lib.hid (outside_two j k hj hk w)
  obtain ⟨r, hr⟩ : ∃ r, r = (j + (2305843009213688669 - k)) % 2305843009213688669 := ⟨_, rfl⟩
  rw [← hr]
  have b3 : (j : Int) < 2305843009213688669 := by omega
  have b4 : (k : Int) < 2305843009213688669 := by omega
  by_cases h : j < k
  · have e1 : (j : Int) + 2305843009213688669 - (k : Int) = (r : Int) := by omega
    have E1 := Lib.hid e1
    have t1 : decide ((j : Int) < (k : Int)) = true := by rw [decide_eq_true_eq]; omega
    have t2 : decide (j < k) = true := by rw [decide_eq_true_eq]; omega
    clear hj hk hr e1 h
    go_enter Tryd.func28, Tryd.ntmps28
    go_wp2_with fail
    refine C1.out.mono ?_
    rintro e w1 ⟨rfl, rfl⟩
    go_wp2_with fail
    go_ret2
    exact ⟨by rw [← E1.out]; rfl, (Below.refl _ _).alloc (Nat.le_refl _) _⟩
  · have e1 : (j : Int) - (k : Int) = (r : Int) := by omega
    have E1 := Lib.hid e1
    have t1 : decide ((j : Int) < (k : Int)) = false := by rw [decide_eq_false_iff_not]; omega
    have t2 : decide (j < k) = false := by rw [decide_eq_false_iff_not]; omega
    clear hj hk hr e1 h
    go_enter Tryd.func28, Tryd.ntmps28
    go_wp2_with fail
    refine C1.out.mono ?_
    rintro e w1 ⟨rfl, rfl⟩
    go_wp2_with fail
    go_ret2
    exact ⟨by rw [← E1.out]; rfl, (Below.refl _ _).alloc (Nat.le_refl _) _⟩

theorem one_cell (w : World) (x : Int) : (w.alloc (.cells #[.int .i64 x] 3)).cell? ⟨w.heap.size, 0, none⟩ = some (.int .i64 x) := by
  rw [World.cell?_alloc_new]; rfl

set_option maxHeartbeats 1000000 in
theorem fcheck_ok (v : Int) (hv : Gp.isSc v = true) (w : World) :
    Calls Tryd.prog 56 #[.int .i64 v] w fun e w' => e = .returned (.int .i64 0) ∧ Below w.heap.size w w' := by
  have c1 := outside_no w.heap.size 1 (fun _ => v) (by decide) (fun _ _ => hv) (w.alloc (.cells #[.int .i64 v] 3)) (fun i hi => by obtain rfl : i = 0 := (by omega); exact one_cell w v)
  have C1 := Lib.hid c1
  clear c1 hv
  go_enter Tryd.func56, Tryd.ntmps56
  go_wp2_with fail
  refine C1.out.mono ?_
  rintro e w1 ⟨rfl, rfl⟩
  go_wp2_with fail
  go_ret
  exact ⟨rfl, (Below.refl _ _).alloc (Nat.le_refl _) _⟩

set_option maxHeartbeats 1000000 in
theorem fcheck_no (v : Int) (hv : Gp.isSc v = false) (w : World) :
    Calls Tryd.prog 56 #[.int .i64 v] w fun e w' => e = .returned (.int .i64 1) ∧ Below w.heap.size w w' := by
  have C1 := Lib.hid (outside_yes w.heap.size v hv (w.alloc (.cells #[.int .i64 v] 3)) (one_cell w v))
  clear hv
  go_enter Tryd.func56, Tryd.ntmps56
  go_wp2_with fail
  refine C1.out.mono ?_
  rintro e w1 ⟨rfl, rfl⟩
  go_wp2_with fail
  go_ret
  exact ⟨rfl, (Below.refl _ _).alloc (Nat.le_refl _) _⟩
end Go.Proofs.YtelikpkekloffaaDoor
