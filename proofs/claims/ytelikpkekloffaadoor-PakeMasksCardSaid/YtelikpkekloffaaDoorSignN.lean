/- sign.Public, Sign of a number that is no private key, walked: error 50. -/
import Derived.Test.YtelikpkekloffaaDoorSign
namespace Go.Proofs.YtelikpkekloffaaDoor
open Go.RowKit

set_option maxHeartbeats 1000000 in
theorem valid_no (x : Int) (h : x < 1 ∨ 2305843009213688669 ≤ x) (w : World) : Calls Tryd.prog 81 #[.int .i64 x] w fun e w' => e = .returned (.bool false) ∧ w' = w := by
  by_cases h1 : x < 1
  · have t1 : decide ((1 : Int) ≤ x) = false := by rw [decide_eq_false_iff_not]; omega
    clear h h1
    go_enter Tryd.func81, Tryd.ntmps81
    go_wp2_with fail
    go_ret
    exact ⟨rfl, rfl⟩
  · have t1 : decide ((1 : Int) ≤ x) = true := by rw [decide_eq_true_eq]; omega
    have t2 : decide (x < 2305843009213688669) = false := by rw [decide_eq_false_iff_not]; omega
    clear h h1
    go_enter Tryd.func81, Tryd.ntmps81
    go_wp2_with fail
    go_ret
    exact ⟨rfl, rfl⟩

set_option maxHeartbeats 1000000 in
theorem pub_no (x : Int) (h : x < 1 ∨ 2305843009213688669 ≤ x) (w : World) : Calls Tryd.prog 50 #[.int .i64 x] w fun e w' => e = .returned (.tuple #[.int .i64 0, .int .i64 50]) ∧ Below w.heap.size w w' := by
  have H1 := Lib.hid (fun w => valid_no x h w)
  clear h
  go_enter Tryd.func50, Tryd.ntmps50
  go_wp2_with fail
  refine (H1.out _).mono ?_
  rintro e w1 ⟨rfl, rfl⟩
  go_wp2_with fail
  go_ret2
  exact ⟨rfl, Below.refl _ _⟩

set_option maxHeartbeats 4000000 in
set_option maxRecDepth 100000 in
theorem sign_no (x : Int) (h : x < 1 ∨ 2305843009213688669 ≤ x) (p : Option Addr) (n c : Nat) (w : World) :
    Calls Tryd.prog 52 #[.int .i64 x, .slice p n c] w fun e w' => e = .returned (.tuple #[sgV 0 0, .int .i64 50]) ∧ Below w.heap.size w w' := by
  have H1 := Lib.hid (fun w => valid_no x h w)
  clear h
  go_enter Tryd.func52, Tryd.ntmps52
  go_wp2_with fail
  refine (H1.out _).mono ?_
  rintro e w1 ⟨rfl, rfl⟩
  go_wp2_with fail
  have hrow : Row (w.alloc (.cells #[.int .i64 0, .int .i64 0] 61)) w.heap.size 0 2 .i64 (fun _ => 0) := row_new w _ _ 2 .i64 _ fun i hi => by
    match i, hi with
    | 0, _ => rfl
    | 1, _ => rfl
  have hrg : World.rangeAt (w.alloc (.cells #[.int .i64 0, .int .i64 0] 61)) w.heap.size 0 [.int .i64 0, .int .i64 0] := fun j v hv => by
    match j, hv with
    | 0, hv => cases hv; exact hrow.cell 0 (by decide)
    | 1, hv => cases hv; exact hrow.cell 1 (by decide)
  exact bodyPost_ret (v := .tuple #[sgV 0 0, .int .i64 50]) (results_cellTmp rfl rfl rfl (run_loadVar_mid _ w.heap.size 0 61 [.int .i64 0, .int .i64 0] _ hrg Tryd.underlying61 rfl (by kernel_rfl))) rfl ⟨rfl, (Below.refl _ _).alloc (Nat.le_refl _) _⟩
end Go.Proofs.YtelikpkekloffaaDoor
