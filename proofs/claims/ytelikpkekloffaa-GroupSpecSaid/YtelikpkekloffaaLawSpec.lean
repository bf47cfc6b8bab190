/- The law GroupSpec, walked: whatever its arguments, it returns true. -/
import Derived.Test.YtelikpkekloffaaSane4
import Derived.Test.YtelikpkekloffaaRefG
namespace Go.Proofs.Ytelikpkekloffaa
open Go.RowKit

set_option maxRecDepth 100000 in
set_option maxHeartbeats 4000000 in
theorem groupSpec_walk (a b k : Int) (w : World) :
    Calls Try.prog 3 #[.int .i64 a, .int .i64 b, .int .i64 k] w fun e w' => e = .returned (.bool true) ∧ Below w.heap.size w w' := by
  have X0 := Lib.hid (fun w => sane4 w)
  have X1 := Lib.hid (fun w => mul_any a b w)
  have Y1 := Lib.hid (fun w => rmul_any a b w)
  have X2 := Lib.hid (fun w => inv_any a w)
  have Y2 := Lib.hid (fun w => rinv_any a w)
  have X3 := Lib.hid (fun w => exp_any a k w)
  have Y3 := Lib.hid (fun w => rexp_any a k w)
  have X4 := Lib.hid (fun w => base_any k w)
  have Y4 := Lib.hid (fun w => rbase_any k w)
  have X5 := Lib.hid (fun w => check_any a w)
  have Y5 := Lib.hid (fun w => rcheck_any a w)
  generalize (Gp.gMul a b).1 = v1 at *
  generalize (Gp.gMul a b).2 = v2 at *
  generalize (Gp.gExp a 2305843009213688668).1 = v3 at *
  generalize (Gp.gExp a 2305843009213688668).2 = v4 at *
  generalize (Gp.gExp a k).1 = v5 at *
  generalize (Gp.gExp a k).2 = v6 at *
  generalize (Gp.gExp 4 k).1 = v7 at *
  generalize (Gp.gExp 4 k).2 = v8 at *
  generalize Gp.gChk a = v9 at *
  go_enter Try.func3, Try.ntmps3
  go_wp2_with fail
  refine (X0.out _).mono ?_
  rintro e w1 ⟨rfl, hb1⟩
  go_wp2_with fail
  refine (X1.out _).mono ?_
  rintro e w2 ⟨rfl, hb2⟩
  go_wp2_with fail
  refine (Y1.out _).mono ?_
  rintro e w2' ⟨rfl, rfl⟩
  go_wp2_with fail
  refine (X2.out _).mono ?_
  rintro e w3 ⟨rfl, hb3⟩
  go_wp2_with fail
  refine (Y2.out _).mono ?_
  rintro e w3' ⟨rfl, rfl⟩
  go_wp2_with fail
  refine (X3.out _).mono ?_
  rintro e w4 ⟨rfl, hb4⟩
  go_wp2_with fail
  refine (Y3.out _).mono ?_
  rintro e w4' ⟨rfl, rfl⟩
  go_wp2_with fail
  refine (X4.out _).mono ?_
  rintro e w5 ⟨rfl, hb5⟩
  go_wp2_with fail
  refine (Y4.out _).mono ?_
  rintro e w5' ⟨rfl, rfl⟩
  have h2 := hb1.trans (hb2.mono hb1.size)
  have h3 := h2.trans (hb3.mono h2.size)
  have h4 := h3.trans (hb4.mono h3.size)
  have h5 := h4.trans (hb5.mono h4.size)
  clear hb1 hb2 hb3 hb4 hb5 h2 h3 h4
  go_wp2_with fail
  refine (X5.out _).mono ?_
  rintro e w6 ⟨rfl, hb6⟩
  have h6 := h5.trans (hb6.mono h5.size)
  clear hb6 h5
  go_wp2_with fail
  refine (Y5.out _).mono ?_
  rintro e w6' ⟨rfl, rfl⟩
  go_wp2_with fail
  go_ret
  exact ⟨rfl, h6⟩
end Go.Proofs.Ytelikpkekloffaa
