/- The law GroupHalves, walked: whatever its argument, it returns true. -/
import Derived.Test.YtelikpkekloffaaSane4
import Derived.Test.YtelikpkekloffaaElW
import Derived.Test.YtelikpkekloffaaElem
namespace Go.Proofs.Ytelikpkekloffaa
open Go.RowKit

set_option maxRecDepth 100000 in
set_option maxHeartbeats 4000000 in
theorem halves_zero (n : Nat) (hn : n < 18446744073709551616) (h : n % 4611686018427377339 = 0) (w : World) :
    Calls Try.prog 5 #[.int .u64 n] w fun e w' => e = .returned (.bool true) ∧ Below w.heap.size w w' := by
  have X0 := Lib.hid (fun w => sane4 w)
  have X1 := Lib.hid (fun w => check_no 0 Gp.no0 w)
  have e1 : (n : Int) % 4611686018427377339 = 0 := by omega
  have b2 : (n : Int) < 18446744073709551616 := by omega
  clear h hn
  go_enter Try.func5, Try.ntmps5
  go_wp2_with fail
  refine (X0.out _).mono ?_
  rintro e w1 ⟨rfl, hB⟩
  go_wp2_with fail
  first
    | (refine (X1.out _).mono ?_)
    | (rw [e1]; refine (X1.out _).mono ?_)
  rintro e w2 ⟨rfl, hb1⟩
  replace hB := hB.trans (hb1.mono hB.size)
  clear hb1
  go_wp2_with fail
  go_ret
  exact ⟨rfl, hB⟩

set_option maxRecDepth 100000 in
set_option maxHeartbeats 4000000 in
theorem halves_core (n a s : Nat) (e1 : (n : Int) % 4611686018427377339 = (a : Int)) (e2 : ((a : Int) == 0) = false) (b2 : (n : Int) < 18446744073709551616) (_b3 : (a : Int) < 4611686018427377339)
    (X1 : Hid (∀ w, Calls Try.prog 19 #[.int .u64 n] w fun e w' => e = .returned (.tuple #[.int .i64 s, .bool true]) ∧ w' = w))
    (hs : Hid (Gp.El s)) (key : Hid ((Gp.isEl (a : Int) = true ∧ Gp.isEl (4611686018427377339 - (a : Int)) = false) ∨ (Gp.isEl (a : Int) = false ∧ Gp.isEl (4611686018427377339 - (a : Int)) = true))) (w : World) :
    Calls Try.prog 5 #[.int .u64 n] w fun e w' => e = .returned (.bool true) ∧ Below w.heap.size w w' := by
  have X0 := Lib.hid (fun w => sane4 w)
  rcases key.out with ⟨k1, k2⟩ | ⟨k1, k2⟩
  · have Y1 := Lib.hid (fun w => check_ok _ k1 w)
    have Y2 := Lib.hid (fun w => check_no _ k2 w)
    clear k1 k2
    go_enter Try.func5, Try.ntmps5
    go_wp2_with fail
    refine (X0.out _).mono ?_
    rintro e w1 ⟨rfl, hB⟩
    go_wp2_with fail
    refine (X1.out _).mono ?_
    rintro e w2 ⟨rfl, rfl⟩
    go_wp2_with fail
    refine (checkE hs.out _).mono ?_
    rintro e w3 ⟨rfl, hb1⟩
    replace hB := hB.trans (hb1.mono hB.size)
    clear hb1
    go_wp2_with fail
    first
      | (refine (Y1.out _).mono ?_)
      | (rw [e1]; refine (Y1.out _).mono ?_)
    rintro e w4 ⟨rfl, hb1⟩
    replace hB := hB.trans (hb1.mono hB.size)
    clear hb1
    go_wp2_with fail
    first
      | (refine (Y2.out _).mono ?_)
      | (rw [e1]; refine (Y2.out _).mono ?_)
    rintro e w5 ⟨rfl, hb1⟩
    replace hB := hB.trans (hb1.mono hB.size)
    clear hb1
    go_wp2_with fail
    go_ret
    exact ⟨rfl, hB⟩
  · have Y1 := Lib.hid (fun w => check_no _ k1 w)
    have Y2 := Lib.hid (fun w => check_ok _ k2 w)
    clear k1 k2
    go_enter Try.func5, Try.ntmps5
    go_wp2_with fail
    refine (X0.out _).mono ?_
    rintro e w1 ⟨rfl, hB⟩
    go_wp2_with fail
    refine (X1.out _).mono ?_
    rintro e w2 ⟨rfl, rfl⟩
    go_wp2_with fail
    refine (checkE hs.out _).mono ?_
    rintro e w3 ⟨rfl, hb1⟩
    replace hB := hB.trans (hb1.mono hB.size)
    clear hb1
    go_wp2_with fail
    first
      | (refine (Y1.out _).mono ?_)
      | (rw [e1]; refine (Y1.out _).mono ?_)
    rintro e w4 ⟨rfl, hb1⟩
    replace hB := hB.trans (hb1.mono hB.size)
    clear hb1
    go_wp2_with fail
    first
      | (refine (Y2.out _).mono ?_)
      | (rw [e1]; refine (Y2.out _).mono ?_)
    rintro e w5 ⟨rfl, hb1⟩
    replace hB := hB.trans (hb1.mono hB.size)
    clear hb1
    go_wp2_with fail
    go_ret
    exact ⟨rfl, hB⟩

theorem isEl_iff {n : Nat} (h0 : n ≠ 0) (h : n < 4611686018427377339) : Gp.isEl (n : Int) = (Gp.pw 4611686018427377339 n 2305843009213688669 == 1) := by
  rcases Gp.isEl_cases (n : Int) with h1 | h1 | ⟨m, hm, _, _, h5⟩
  · omega
  · omega
  · obtain rfl : n = m := by omega
    exact h5
theorem halves_key {a : Nat} (h0 : a ≠ 0) (h : a < 4611686018427377339) :
    (Gp.isEl (a : Int) = true ∧ Gp.isEl (4611686018427377339 - (a : Int)) = false) ∨ (Gp.isEl (a : Int) = false ∧ Gp.isEl (4611686018427377339 - (a : Int)) = true) := by
  have e : (4611686018427377339 - (a : Int)) = ((4611686018427377339 - a : Nat) : Int) := by omega
  rw [e, isEl_iff h0 h, isEl_iff (n := 4611686018427377339 - a) (by omega) (by omega)]
  rcases Gp.halves h0 h with ⟨h1, h2⟩ | ⟨h1, h2⟩
  · exact .inl ⟨by rw [h1]; rfl, by rw [beq_eq_false_iff_ne]; exact h2⟩
  · exact .inr ⟨by rw [beq_eq_false_iff_ne]; exact h1, by rw [h2]; rfl⟩

theorem groupHalves_int (n : Int) (vn : (Lit.int .u64 n).wf = true) (w : World) :
    Calls Try.prog 5 #[.int .u64 n] w fun e w' => e = .returned (.bool true) ∧ Below w.heap.size w w' := by
  obtain ⟨n, rfl, hn⟩ := u64_nat vn
  by_cases h : n % 4611686018427377339 = 0
  · exact halves_zero n hn h w
  · exact halves_core n (n % 4611686018427377339) (Gp.sq n) (by omega) (by rw [beq_eq_false_iff_ne]; omega) (by omega) (by omega)
      (Lib.hid fun w => element_yes n hn h w) (Lib.hid (Gp.El.sq h)) (Lib.hid (halves_key h (Nat.mod_lt _ (by decide)))) w
end Go.Proofs.Ytelikpkekloffaa
