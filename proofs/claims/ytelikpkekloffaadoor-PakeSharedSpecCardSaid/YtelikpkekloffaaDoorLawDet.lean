/- The law GroupDetermined, walked: whatever its arguments, it returns true. -/
import Derived.Test.YtelikpkekloffaaDoorHash
import Derived.Test.YtelikpkekloffaaDoorSane4
import Derived.Test.YtelikpkekloffaaDoorElW
import Derived.Test.YtelikpkekloffaaDoorEq32
namespace Go.Proofs.YtelikpkekloffaaDoor
open Go.RowKit

theorem pt_sq (tag : ByteArray) (n : Nat) (f : Nat → Nat) : ptOf tag n f = Gp.sq (ptX tag n f) := by
  have h := ptX_lt tag n f
  unfold ptOf Gp.sq
  rw [Nat.mod_eq_of_lt (by omega)]
theorem pt_el (tag : ByteArray) (n : Nat) (f : Nat → Nat) : Gp.El (ptOf tag n f) := by
  have h := ptX_lt tag n f
  rw [pt_sq]
  exact Gp.El.sq (by rw [Nat.mod_eq_of_lt (by omega)]; omega)
theorem pt_ne (tag : ByteArray) (n : Nat) (f : Nat → Nat) : ptOf tag n f ≠ 1 := by
  have h := ptX_lt tag n f
  intro e
  rcases Gp.sqrt_one (y := ptX tag n f) (by omega) e with e1 | e1 <;> omega

set_option maxRecDepth 100000 in
set_option maxHeartbeats 4000000 in
theorem det_big (t1 t2 : ByteArray) (p1 p2 : Option Addr) (n1 c1 n2 c2 : Nat) (w : World) 
    (ht1 : t1.size ≤ 140737488351232) (ht2 : t2.size ≤ 140737488351232) (hn1 : n1 ≤ 140737488351232) (hn2 : n2 ≤ 140737488351232) (h : 300 < t1.size + t2.size ∨ 1000 < n1 + n2) :
    Calls Tryd.prog 6 #[.string t1, .string t2, .slice p1 n1 c1, .slice p2 n2 c2] w fun e w' => e = .returned (.bool true) ∧ Below w.heap.size w w' := by
  have X0 := Lib.hid (fun w => sane4 w)
  have b1 : (t1.size : Int) ≤ 140737488351232 := by omega
  have b2 : (t2.size : Int) ≤ 140737488351232 := by omega
  have b3 : (n1 : Int) ≤ 140737488351232 := by omega
  have b4 : (n2 : Int) ≤ 140737488351232 := by omega
  by_cases h1 : 300 < t1.size + t2.size
  · have k1 : decide ((300 : Int) < (t1.size : Int) + (t2.size : Int)) = true := by rw [decide_eq_true_eq]; omega
    clear h h1 ht1 ht2 hn1 hn2
    go_enter Tryd.func6, Tryd.ntmps6
    go_wp2_with fail
    refine (X0.out _).mono ?_
    rintro e w1 ⟨rfl, hB⟩
    go_wp2_with fail
    go_ret
    exact ⟨rfl, hB⟩
  · have k1 : decide ((300 : Int) < (t1.size : Int) + (t2.size : Int)) = false := by rw [decide_eq_false_iff_not]; omega
    have k2 : decide ((1000 : Int) < (n1 : Int) + (n2 : Int)) = true := by rw [decide_eq_true_eq]; omega
    clear h h1 ht1 ht2 hn1 hn2
    go_enter Tryd.func6, Tryd.ntmps6
    go_wp2_with fail
    refine (X0.out _).mono ?_
    rintro e w1 ⟨rfl, hB⟩
    go_wp2_with fail
    go_ret
    exact ⟨rfl, hB⟩

set_option maxRecDepth 100000 in
set_option maxHeartbeats 4000000 in
theorem det_small (t1 t2 : ByteArray) (p1 p2 : Option Addr) (n1 c1 n2 c2 : Nat) (f1 f2 : Nat → Nat) (w : World) (hT : Tabs w) (h1 : Bytes w p1 n1 c1 f1) (h2 : Bytes w p2 n2 c2 f2)
    (hc1 : c1 ≤ 9223372036854775807) (hc2 : c2 ≤ 9223372036854775807) (ht : t1.size + t2.size ≤ 300) (hn : n1 + n2 ≤ 1000) :
    Calls Tryd.prog 6 #[.string t1, .string t2, .slice p1 n1 c1, .slice p2 n2 c2] w fun e w' => e = .returned (.bool true) ∧ Below w.heap.size w w' := by
  have X0 := Lib.hid (fun w => sane4 w)
  have k1 : decide ((300 : Int) < (t1.size : Int) + (t2.size : Int)) = false := by rw [decide_eq_false_iff_not]; omega
  have k2 : decide ((1000 : Int) < (n1 : Int) + (n2 : Int)) = false := by rw [decide_eq_false_iff_not]; omega
  have b1 : (t1.size : Int) ≤ 300 := by omega
  have b2 : (t2.size : Int) ≤ 300 := by omega
  have b3 : (n1 : Int) ≤ 1000 := by omega
  have b4 : (n2 : Int) ≤ 1000 := by omega
  have S1 := Lib.hid (fun (W : World) (hb : Below w.heap.size w W) => scalar_any t1 p1 n1 c1 f1 W (hT.below hb) (h1.below hb (Nat.le_refl _)) (by omega) (by omega) hc1)
  have S2 := Lib.hid (fun (W : World) (hb : Below w.heap.size w W) => scalar_any t2 p2 n2 c2 f2 W (hT.below hb) (h2.below hb (Nat.le_refl _)) (by omega) (by omega) hc2)
  have P1 := Lib.hid (fun (W : World) (hb : Below w.heap.size w W) => point_any t1 p1 n1 c1 f1 W (hT.below hb) (h1.below hb (Nat.le_refl _)) (by omega) (by omega) hc1)
  have P2 := Lib.hid (fun (W : World) (hb : Below w.heap.size w W) => point_any t2 p2 n2 c2 f2 W (hT.below hb) (h2.below hb (Nat.le_refl _)) (by omega) (by omega) hc2)
  have T1 := Lib.hid (fun (W : World) (hb : Below w.heap.size w W) => tagged_any t1 p1 n1 c1 f1 W (hT.below hb) (h1.below hb (Nat.le_refl _)) (by omega) (by omega) hc1)
  have T2 := Lib.hid (fun (W : World) (hb : Below w.heap.size w W) => tagged_any t2 p2 n2 c2 f2 W (hT.below hb) (h2.below hb (Nat.le_refl _)) (by omega) (by omega) hc2)
  have E1 := Lib.hid (pt_el t1 n1 f1)
  obtain ⟨k, hk⟩ : ∃ k, k = scOf t1 n1 f1 := ⟨_, rfl⟩
  obtain ⟨a, ha⟩ : ∃ a, a = ptOf t1 n1 f1 := ⟨_, rfl⟩
  have g1 : (1 : Int) ≤ k := by have := scOf_pos t1 n1 f1; omega
  have g2 : (k : Int) < 2305843009213688669 := by have := scOf_lt t1 n1 f1; omega
  have g3 : ((a : Int) == 1) = false := by rw [beq_eq_false_iff_ne]; have := pt_ne t1 n1 f1; omega
  have g4 : decide ((k : Int) < 1) = false := by rw [decide_eq_false_iff_not]; omega
  have g5 : decide ((2305843009213688669 : Int) ≤ (k : Int)) = false := by rw [decide_eq_false_iff_not]; omega
  have HK := Lib.hid hk
  have HA := Lib.hid ha
  rw [← hk] at S1
  rw [← ha] at P1 E1
  clear hT h1 h2 hc1 hc2 ht hn hk ha
  go_enter Tryd.func6, Tryd.ntmps6
  go_wp2_with fail
  refine (X0.out _).mono ?_
  rintro e w1 ⟨rfl, hB⟩
  go_wp2_with fail
  refine (S1.out _ hB).mono ?_
  rintro e w2 ⟨rfl, hb1⟩
  replace hB := hB.trans (hb1.mono hB.size)
  clear hb1
  go_wp2_with fail
  refine (P1.out _ hB).mono ?_
  rintro e w3 ⟨rfl, hb1⟩
  replace hB := hB.trans (hb1.mono hB.size)
  clear hb1
  go_wp2_with fail
  refine (checkE E1.out _).mono ?_
  rintro e w4 ⟨rfl, hb1⟩
  replace hB := hB.trans (hb1.mono hB.size)
  clear hb1
  go_wp2_with fail
  refine (T1.out _ hB).mono ?_
  rintro e w5 ⟨rfl, hb1⟩
  replace hB := hB.trans (hb1.mono hB.size)
  clear hb1
  go_wp2_with fail
  refine (T2.out _ hB).mono ?_
  rintro e w6 ⟨rfl, hb1⟩
  replace hB := hB.trans (hb1.mono hB.size)
  clear hb1
  obtain ⟨x, hx⟩ : ∃ x, x = Sha.tagged t1.size (sb t1) n1 f1 := ⟨_, rfl⟩
  obtain ⟨y, hy⟩ : ∃ y, y = Sha.tagged t2.size (sb t2) n2 f2 := ⟨_, rfl⟩
  rw [← hx, ← hy]
  have HX := Lib.hid hx
  have HY := Lib.hid hy
  clear hx hy
  unfold d32
  obtain ⟨r, hr, hiff⟩ := eq32 x y (fun i _ => by rw [HX.out]; exact Sha.tagged_lt _ _ _ _ i) (fun i _ => by rw [HY.out]; exact Sha.tagged_lt _ _ _ _ i) w6
  have HI := Lib.hid hiff
  clear hiff
  cases r with
  | false =>
    go_wp2_with fail
    go_ret
    exact ⟨rfl, hB⟩
  | true =>
    have e1 : scOf t2 n2 f2 = k := by
      rw [HK.out]; unfold scOf
      rw [← HX.out, ← HY.out, rst_congr (k := 32) (HI.out.1 rfl) 32 (Nat.le_refl _)]
    have e2 : ptOf t2 n2 f2 = a := by
      rw [HA.out]; unfold ptOf ptX
      rw [← HX.out, ← HY.out, rst_congr (k := 32) (HI.out.1 rfl) 32 (Nat.le_refl _)]
    rw [e1] at S2
    rw [e2] at P2
    clear e1 e2
    go_wp2_with fail
    refine (S2.out _ hB).mono ?_
    rintro e w7 ⟨rfl, hb1⟩
    replace hB := hB.trans (hb1.mono hB.size)
    clear hb1
    go_wp2_with fail
    refine (P2.out _ hB).mono ?_
    rintro e w8 ⟨rfl, hb1⟩
    replace hB := hB.trans (hb1.mono hB.size)
    clear hb1
    go_wp2_with fail
    go_ret
    exact ⟨rfl, hB⟩

theorem groupDetermined_any (t1 t2 : ByteArray) (p1 p2 : Option Addr) (n1 c1 n2 c2 : Nat) (f1 f2 : Nat → Nat) (w : World) (hT : Tabs w) (h1 : Bytes w p1 n1 c1 f1) (h2 : Bytes w p2 n2 c2 f2)
    (hc1 : c1 ≤ 9223372036854775807) (hc2 : c2 ≤ 9223372036854775807) (ht1 : t1.size ≤ 140737488351232) (ht2 : t2.size ≤ 140737488351232) (hn1 : n1 ≤ 140737488351232) (hn2 : n2 ≤ 140737488351232) :
    Calls Tryd.prog 6 #[.string t1, .string t2, .slice p1 n1 c1, .slice p2 n2 c2] w fun e w' => e = .returned (.bool true) ∧ Below w.heap.size w w' := by
  by_cases h : 300 < t1.size + t2.size ∨ 1000 < n1 + n2
  · exact det_big t1 t2 p1 p2 n1 c1 n2 c2 w ht1 ht2 hn1 hn2 h
  · exact det_small t1 t2 p1 p2 n1 c1 n2 c2 f1 f2 w hT h1 h2 hc1 hc2 (by omega) (by omega)
end Go.Proofs.YtelikpkekloffaaDoor
