/- field.outside of this program, walked through slices.ContainsFunc and IndexFunc: whether one of some numbers is no scalar; the world stays. -/
import Derived.Test.YtelikpkekloffaaDoorEl
import Derived.Test.YtelikpkekloffaaDoorRows
import Derived.WalkKit
import Derived.WalkSpells
import Derived.WalkLawsBesides
import Derived.Lib.Hide
import Derived.Deep.LoopGhost
namespace Go.Proofs.YtelikpkekloffaaDoor
open Go.RowKit

set_option maxHeartbeats 1000000 in
theorem fout1_any (k : Int) (w : World) :
    Calls Tryd.prog 98 #[.int .i64 k] w fun e w' => e = .returned (.bool (!Gp.isSc k)) ∧ w' = w := by
  cases h : Gp.isSc k
  · rcases Gp.isSc_not h with h1 | ⟨h0, h1⟩
    · have t1 : decide (k < 0) = true := by rw [decide_eq_true_eq]; omega
      clear h h1
      go_enter Tryd.func98, Tryd.ntmps98
      go_wp2_with fail
      go_ret
      exact ⟨rfl, rfl⟩
    · have t1 : decide (k < 0) = false := by rw [decide_eq_false_iff_not]; omega
      have t2 : decide (2305843009213688669 ≤ k) = true := by rw [decide_eq_true_eq]; omega
      clear h h1 h0
      go_enter Tryd.func98, Tryd.ntmps98
      go_wp2_with fail
      go_ret
      exact ⟨rfl, rfl⟩
  · obtain ⟨n, rfl, h1⟩ := Gp.isSc_nat h
    have t1 : decide ((n : Int) < 0) = false := by rw [decide_eq_false_iff_not]; omega
    have t2 : decide (2305843009213688669 ≤ (n : Int)) = false := by rw [decide_eq_false_iff_not]; omega
    clear h h1
    go_enter Tryd.func98, Tryd.ntmps98
    go_wp2_with fail
    go_ret
    exact ⟨rfl, rfl⟩

set_option maxRecDepth 100000 in
set_option maxHeartbeats 1000000 in
theorem findex_none (B len : Nat) (f : Nat → Int) (hlen : len ≤ 3) (hs : ∀ i, i < len → Gp.isSc (f i) = true) (w : World) (hc : ∀ i, i < len → w.cell? ⟨B, i, none⟩ = some (.int .i64 (f i))) :
    Calls Tryd.prog 112 #[.slice (some ⟨B, 0, none⟩) len len, .func (.func 98) #[] #[]] w fun e w' => e = .returned (.int .i64 (-1)) ∧ w' = w := by
  have HS := Lib.hid hs
  have HC := Lib.hid hc
  have hl : (len : Int) ≤ 3 := by omega
  clear hs hc hlen
  go_enter Tryd.func112, Tryd.ntmps112
  go_wp2_with fail
  go_loopg [8] len (fun m x wr => wr = w ∧ ∃ i : Nat, i + m = len ∧ x = .int .i64 i)
  case atStart => exact ⟨rfl, 0, Nat.zero_add _, rfl⟩
  case round =>
    obtain ⟨rfl, i, hi, rfl⟩ := hrel
    by_cases h : i < len
    · have hc := HC.out i h
      have c1 := fun w => fout1_any (f i) w
      rw [HS.out i h] at c1
      have C1 : Hid (∀ w, Calls Tryd.prog 98 #[.int .i64 (f i)] w fun e w' => e = .returned (.bool false) ∧ w' = w) := Lib.hid c1
      generalize f i = v at *
      have HI := Lib.hid hi
      clear c1 hi
      go_wp2_with fail
      refine (C1.out _).mono ?_
      rintro e w1 ⟨rfl, rfl⟩
      go_wp2_with fail
      go_roundg (len - (i + 1))
      case rel => exact ⟨rfl, i + 1, by omega, by go_num⟩
      case measure => have := HI.out; omega
    · obtain rfl : i = len := by omega
      clear hi h
      go_wp2_with fail
      go_ret
      exact ⟨rfl, rfl⟩

set_option maxHeartbeats 1000000 in
theorem outside_no (B len : Nat) (f : Nat → Int) (hlen : len ≤ 3) (hs : ∀ i, i < len → Gp.isSc (f i) = true) (w : World) (hc : ∀ i, i < len → w.cell? ⟨B, i, none⟩ = some (.int .i64 (f i))) :
    Calls Tryd.prog 65 #[.slice (some ⟨B, 0, none⟩) len len] w fun e w' => e = .returned (.bool false) ∧ w' = w := by
  have C1 := Lib.hid (findex_none B len f hlen hs w hc)
  have c2 : Calls Tryd.prog 97 #[.slice (some ⟨B, 0, none⟩) len len, .func (.func 98) #[] #[]] w fun e w' => e = .returned (.bool false) ∧ w' = w := by
    clear hs hc hlen
    go_enter Tryd.func97, Tryd.ntmps97
    go_wp2_with fail
    refine C1.out.mono ?_
    rintro e w1 ⟨rfl, rfl⟩
    go_wp2_with fail
    go_ret
    exact ⟨rfl, rfl⟩
  have C2 := Lib.hid c2
  clear hs hc c2 C1 hlen
  go_enter Tryd.func65, Tryd.ntmps65
  go_wp2_with fail
  refine C2.out.mono ?_
  rintro e w1 ⟨rfl, rfl⟩
  go_wp2_with fail
  go_ret
  exact ⟨rfl, rfl⟩

set_option maxRecDepth 100000 in
set_option maxHeartbeats 1000000 in
theorem outside_yes (B : Nat) (v : Int) (hs : Gp.isSc v = false) (w : World) (hc : w.cell? ⟨B, 0, none⟩ = some (.int .i64 v)) :
    Calls Tryd.prog 65 #[.slice (some ⟨B, 0, none⟩) 1 1] w fun e w' => e = .returned (.bool true) ∧ w' = w := by
  have c1 := fout1_any v w
  rw [hs] at c1
  have C0 : Hid (Calls Tryd.prog 98 #[.int .i64 v] w fun e w' => e = .returned (.bool true) ∧ w' = w) := Lib.hid c1
  clear c1 hs
  have c1 : Calls Tryd.prog 112 #[.slice (some ⟨B, 0, none⟩) 1 1, .func (.func 98) #[] #[]] w fun e w' => e = .returned (.int .i64 0) ∧ w' = w := by
    go_enter Tryd.func112, Tryd.ntmps112
    go_wp2_with fail
    go_loopg [8] 0 (fun m x wr => wr = w ∧ x = .int .i64 0)
    case atStart => exact ⟨rfl, rfl⟩
    case round =>
      obtain ⟨rfl, rfl⟩ := hrel
      go_wp2_with fail
      refine C0.out.mono ?_
      rintro e w1 ⟨rfl, rfl⟩
      go_wp2_with fail
      go_ret
      exact ⟨rfl, rfl⟩
  have C1 := Lib.hid c1
  have c2 : Calls Tryd.prog 97 #[.slice (some ⟨B, 0, none⟩) 1 1, .func (.func 98) #[] #[]] w fun e w' => e = .returned (.bool true) ∧ w' = w := by
    clear hc C0 c1
    go_enter Tryd.func97, Tryd.ntmps97
    go_wp2_with fail
    refine C1.out.mono ?_
    rintro e w1 ⟨rfl, rfl⟩
    go_wp2_with fail
    go_ret
    exact ⟨rfl, rfl⟩
  have C2 := Lib.hid c2
  clear hc c2 C1 C0 c1
  go_enter Tryd.func65, Tryd.ntmps65
  go_wp2_with fail
  refine C2.out.mono ?_
  rintro e w1 ⟨rfl, rfl⟩
  go_wp2_with fail
  go_ret
  exact ⟨rfl, rfl⟩
end Go.Proofs.YtelikpkekloffaaDoor
