/- The squares that the laws of chapter 4 draw, walked. -/
import Derived.Test.YtelikpkekloffaaRefP
import Derived.Test.YtelikpkekloffaaLaws
import Derived.OpenShut
namespace Go.Proofs.Ytelikpkekloffaa
open Go.RowKit

set_option maxHeartbeats 1000000 in
theorem square_any (n : Nat) (hn : n < 18446744073709551616) (w : World) :
    Calls Try.prog 28 #[.int .u64 n] w fun e w' => e = .returned (.int .i64 (Gp.sq n : Nat)) ∧ w' = w := by
  obtain ⟨x, hx⟩ : ∃ x, x = n % 4611686018427377339 := ⟨_, rfl⟩
  have hxl : x < 4611686018427377339 := by omega
  have C1 := Lib.hid (fun w => product_P x x hxl (by omega) w)
  have hs : Gp.sq n = Gp.mu 4611686018427377339 x x := by unfold Gp.sq; rw [hx]
  rw [hs]
  generalize Gp.mu 4611686018427377339 x x = r at *
  have e1 : (n : Int) % 4611686018427377339 = (x : Int) := by omega
  have b1 : (x : Int) < 4611686018427377339 := by omega
  have b2 : (n : Int) < 18446744073709551616 := by omega
  clear hs hxl hx hn
  go_enter Try.func28, Try.ntmps28
  go_wp2_with fail
  first
    | (refine (C1.out _).mono ?_)
    | (rw [e1]; refine (C1.out _).mono ?_)
  rintro e w1 ⟨rfl, rfl⟩
  go_wp2_with fail
  go_ret
  exact ⟨rfl, rfl⟩

set_option maxHeartbeats 1000000 in
theorem element_any (n : Nat) (hn : n < 18446744073709551616) (w : World) :
    Calls Try.prog 19 #[.int .u64 n] w fun e w' => e = .returned (.tuple #[.int .i64 (Gp.sq n : Nat), .bool (((Gp.sq n : Nat) : Int) != 0)]) ∧ w' = w := by
  have C1 := Lib.hid (square_any n hn w)
  generalize Gp.sq n = r at *
  clear hn
  go_enter Try.func19, Try.ntmps19
  go_wp2_with fail
  refine C1.out.mono ?_
  rintro e w1 ⟨rfl, rfl⟩
  go_wp2_with fail
  go_ret2
  exact ⟨rfl, rfl⟩

theorem element_yes (n : Nat) (hn : n < 18446744073709551616) (h : n % 4611686018427377339 ≠ 0) (w : World) :
    Calls Try.prog 19 #[.int .u64 n] w fun e w' => e = .returned (.tuple #[.int .i64 (Gp.sq n : Nat), .bool true]) ∧ w' = w := by
  have c := element_any n hn w
  have e : (((Gp.sq n : Nat) : Int) != 0) = true := by rw [bne_iff_ne]; have := Gp.sq_ne h; omega
  rw [e] at c
  exact c
theorem element_no (n : Nat) (hn : n < 18446744073709551616) (h : n % 4611686018427377339 = 0) (w : World) :
    Calls Try.prog 19 #[.int .u64 n] w fun e w' => e = .returned (.tuple #[.int .i64 (Gp.sq n : Nat), .bool false]) ∧ w' = w := by
  have c := element_any n hn w
  have e : (((Gp.sq n : Nat) : Int) != 0) = false := by rw [Gp.sq_zero h]; rfl
  rw [e] at c
  exact c
theorem u64_nat {n : Int} (h : (Lit.int .u64 n).wf = true) : ∃ k : Nat, n = (k : Int) ∧ k < 18446744073709551616 := by
  have := bounds_u64 h
  exact ⟨n.toNat, by omega, by omega⟩
end Go.Proofs.Ytelikpkekloffaa
