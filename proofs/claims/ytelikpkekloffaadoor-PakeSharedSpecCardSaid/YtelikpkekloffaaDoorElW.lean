/- The functions of package group at elements, as natural numbers. -/
import Derived.Test.YtelikpkekloffaaDoorMul
import Derived.Test.YtelikpkekloffaaDoorLaws
namespace Go.Proofs.YtelikpkekloffaaDoor
open Go.RowKit

theorem mulE {a b : Nat} (ha : Gp.El a) (hb : Gp.El b) {r : Nat} (hr : Gp.mu 4611686018427377339 a b = r) (w : World) :
    Calls Tryd.prog 26 #[.int .i64 a, .int .i64 b] w fun e w' => e = .returned (.tuple #[.int .i64 r, .int .i64 0]) ∧ Below w.heap.size w w' := by
  have c := mul_ok a b ha.is hb.is w
  rw [Int.toNat_natCast, Int.toNat_natCast, hr] at c
  exact c
theorem expE {a k : Nat} (ha : Gp.El a) (hk : k < 2305843009213688669) {r : Nat} (hr : Gp.pw 4611686018427377339 a k = r) (w : World) :
    Calls Tryd.prog 22 #[.int .i64 a, .int .i64 k] w fun e w' => e = .returned (.tuple #[.int .i64 r, .int .i64 0]) ∧ Below w.heap.size w w' := by
  have c := exp_ok a k ha.is (Gp.isSc_of hk) w
  rw [Int.toNat_natCast, Int.toNat_natCast, hr] at c
  exact c
theorem invE {a : Nat} (ha : Gp.El a) {r : Nat} (hr : Gp.pw 4611686018427377339 a 2305843009213688668 = r) (w : World) :
    Calls Tryd.prog 25 #[.int .i64 a] w fun e w' => e = .returned (.tuple #[.int .i64 r, .int .i64 0]) ∧ Below w.heap.size w w' := by
  have c := inv_any a w
  have e : Gp.gExp (a : Int) 2305843009213688668 = ((r : Int), 0) := by
    rw [Gp.gExp_ok ha.is (by decide), Int.toNat_natCast, ← hr]; rfl
  rw [e] at c
  exact c
theorem baseE {k : Nat} (hk : k < 2305843009213688669) {r : Nat} (hr : Gp.pw 4611686018427377339 4 k = r) (w : World) :
    Calls Tryd.prog 27 #[.int .i64 k] w fun e w' => e = .returned (.tuple #[.int .i64 r, .int .i64 0]) ∧ Below w.heap.size w w' := by
  have c := base_any k w
  have e : Gp.gExp 4 (k : Int) = ((r : Int), 0) := by
    rw [Gp.gExp_ok Gp.el4 (Gp.isSc_of hk), Int.toNat_natCast, ← hr]; rfl
  rw [e] at c
  exact c
theorem checkE {a : Nat} (ha : Gp.El a) (w : World) :
    Calls Tryd.prog 39 #[.int .i64 a] w fun e w' => e = .returned (.int .i64 0) ∧ Below w.heap.size w w' := check_ok a ha.is w
end Go.Proofs.YtelikpkekloffaaDoor
