/- The law GroupHash, walked: whatever its arguments, it returns true. -/
import Derived.Test.YtelikpkekloffaaDoorRefH
import Derived.Test.YtelikpkekloffaaDoorSane4
namespace Go.Proofs.YtelikpkekloffaaDoor
open Go.RowKit

set_option maxRecDepth 100000 in
set_option maxHeartbeats 4000000 in
theorem hash_big (t : ByteArray) (p : Option Addr) (n c : Nat) (w : World) (ht : t.size ≤ 140737488351232) (hn : n ≤ 140737488351232) (h : 300 < t.size ∨ 1000 < n) :
    Calls Tryd.prog 4 #[.string t, .slice p n c] w fun e w' => e = .returned (.bool true) ∧ Below w.heap.size w w' := by
  have X0 := Lib.hid (fun w => sane4 w)
  have b1 : (t.size : Int) ≤ 140737488351232 := by omega
  have b3 : (n : Int) ≤ 140737488351232 := by omega
  by_cases h1 : 300 < t.size
  · have k1 : decide ((300 : Int) < (t.size : Int)) = true := by rw [decide_eq_true_eq]; omega
    clear h h1 ht hn
    go_enter Tryd.func4, Tryd.ntmps4
    go_wp2_with fail
    refine (X0.out _).mono ?_
    rintro e w1 ⟨rfl, hB⟩
    go_wp2_with fail
    go_ret
    exact ⟨rfl, hB⟩
  · have k1 : decide ((300 : Int) < (t.size : Int)) = false := by rw [decide_eq_false_iff_not]; omega
    have k2 : decide ((1000 : Int) < (n : Int)) = true := by rw [decide_eq_true_eq]; omega
    clear h h1 ht hn
    go_enter Tryd.func4, Tryd.ntmps4
    go_wp2_with fail
    refine (X0.out _).mono ?_
    rintro e w1 ⟨rfl, hB⟩
    go_wp2_with fail
    go_ret
    exact ⟨rfl, hB⟩

set_option maxRecDepth 100000 in
set_option maxHeartbeats 4000000 in
theorem hash_small (t : ByteArray) (p : Option Addr) (n c : Nat) (f : Nat → Nat) (w : World) (hT : Tabs w) (hb : Bytes w p n c f) (hc : c ≤ 9223372036854775807) (ht : t.size ≤ 300) (hn : n ≤ 1000) :
    Calls Tryd.prog 4 #[.string t, .slice p n c] w fun e w' => e = .returned (.bool true) ∧ Below w.heap.size w w' := by
  have X0 := Lib.hid (fun w => sane4 w)
  have b1 : (t.size : Int) ≤ 300 := by omega
  have b3 : (n : Int) ≤ 1000 := by omega
  have k1 : decide ((300 : Int) < (t.size : Int)) = false := by rw [decide_eq_false_iff_not]; omega
  have k2 : decide ((1000 : Int) < (n : Int)) = false := by rw [decide_eq_false_iff_not]; omega
  have S1 := Lib.hid (fun (W : World) (h : Below w.heap.size w W) => scalar_any t p n c f W (hT.below h) (hb.below h (Nat.le_refl _)) (by omega) (by omega) hc)
  have P1 := Lib.hid (fun (W : World) (h : Below w.heap.size w W) => point_any t p n c f W (hT.below h) (hb.below h (Nat.le_refl _)) (by omega) (by omega) hc)
  have S2 := Lib.hid (fun (W : World) (h : Below w.heap.size w W) => rscalar_any t p n c f W (hb.below h (Nat.le_refl _)) (by omega) (by omega))
  have P2 := Lib.hid (fun (W : World) (h : Below w.heap.size w W) => rpoint_any t p n c f W (hb.below h (Nat.le_refl _)) (by omega) (by omega))
  generalize scOf t n f = k at *
  generalize ptOf t n f = a at *
  clear hT hb hc ht hn
  go_enter Tryd.func4, Tryd.ntmps4
  go_wp2_with fail
  refine (X0.out _).mono ?_
  rintro e w1 ⟨rfl, hB⟩
  go_wp2_with fail
  refine (S1.out _ hB).mono ?_
  rintro e w2 ⟨rfl, hb1⟩
  replace hB := hB.trans (hb1.mono hB.size)
  clear hb1
  go_wp2_with fail
  refine (S2.out _ hB).mono ?_
  rintro e w3 ⟨rfl, hb1⟩
  replace hB := hB.trans (hb1.mono hB.size)
  clear hb1
  go_wp2_with fail
  refine (P1.out _ hB).mono ?_
  rintro e w4 ⟨rfl, hb1⟩
  replace hB := hB.trans (hb1.mono hB.size)
  clear hb1
  go_wp2_with fail
  refine (P2.out _ hB).mono ?_
  rintro e w5 ⟨rfl, hb1⟩
  replace hB := hB.trans (hb1.mono hB.size)
  clear hb1
  go_wp2_with fail
  go_ret
  exact ⟨rfl, hB⟩

theorem groupHash_any (t : ByteArray) (p : Option Addr) (n c : Nat) (f : Nat → Nat) (w : World) (hT : Tabs w) (hb : Bytes w p n c f) (hc : c ≤ 9223372036854775807) (ht : t.size ≤ 140737488351232) (hn : n ≤ 140737488351232) :
    Calls Tryd.prog 4 #[.string t, .slice p n c] w fun e w' => e = .returned (.bool true) ∧ Below w.heap.size w w' := by
  by_cases h : 300 < t.size ∨ 1000 < n
  · exact hash_big t p n c w ht hn h
  · exact hash_small t p n c f w hT hb hc (by omega) (by omega)
end Go.Proofs.YtelikpkekloffaaDoor
