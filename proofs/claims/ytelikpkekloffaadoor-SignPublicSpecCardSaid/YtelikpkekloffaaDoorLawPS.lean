/- The law SignPublicSpec, walked: whatever its arguments, it returns true. -/
import Derived.Test.YtelikpkekloffaaDoorRefSg
namespace Go.Proofs.YtelikpkekloffaaDoor
open Go.RowKit

/-- both packages answer alike, for every number. -/
theorem both_any (v : Int) (p : Option Addr) (n c : Nat) (f : Nat → Nat) (hn : n ≤ 1000) : ∃ (A e : Int) (R S : Nat) (g : Int),
    (∀ w : World, Calls Tryd.prog 50 #[.int .i64 v] w fun x w' => x = .returned (.tuple #[.int .i64 A, .int .i64 e]) ∧ Below w.heap.size w w') ∧
    (∀ w : World, Calls Tryd.prog 51 #[.int .i64 v] w fun x w' => x = .returned (.tuple #[.int .i64 A, .int .i64 e]) ∧ w' = w) ∧
    (∀ w : World, Tabs w → Bytes w p n c f → Calls Tryd.prog 52 #[.int .i64 v, .slice p n c] w fun x w' => x = .returned (.tuple #[.agg #[.int .i64 R, .int .i64 S], .int .i64 g]) ∧ Below w.heap.size w w') ∧
    (∀ w : World, Bytes w p n c f → Calls Tryd.prog 53 #[.int .i64 v, .slice p n c] w fun x w' => x = .returned (.tuple #[.agg #[.int .i64 R, .int .i64 S], .int .i64 g]) ∧ Below w.heap.size w w') := by
  by_cases h : 1 ≤ v ∧ v < 2305843009213688669
  · obtain ⟨x, rfl⟩ : ∃ x : Nat, v = (x : Int) := ⟨v.toNat, by omega⟩
    have h1 : 1 ≤ x := by omega
    have h2 : x < 2305843009213688669 := by omega
    exact ⟨_, _, _, _, _, fun w => pub_ok x h1 h2 w, fun w => r5_public_ok x h1 h2 w, fun w hT hb => sign_ok x h1 h2 p n c f w hT hb hn, fun w hb => r5_sign_ok x h1 h2 p n c f w hb hn⟩
  · have h' : v < 1 ∨ 2305843009213688669 ≤ v := by omega
    exact ⟨_, _, _, _, _, fun w => pub_no v h' w, fun w => r5_public_no v h' w, fun w _ _ => sign_no v h' p n c w, fun w _ => r5_sign_no v h' p n c w⟩

set_option maxRecDepth 100000 in
set_option maxHeartbeats 4000000 in
theorem signPublicSpec_any (a : Int) (p : Option Addr) (n c : Nat) (f : Nat → Nat) (w : World) (hT : Tabs w) (hb : Bytes w p n c f) (hn : n ≤ 140737488351232) :
    Calls Tryd.prog 12 #[.int .i64 a, .slice p n c] w fun e w' => e = .returned (.bool true) ∧ Below w.heap.size w w' := by
  have X0 := Lib.hid (fun w hT => sane5 w hT)
  have HT := Lib.hid hT
  have HB := Lib.hid hb
  have b1 : (n : Int) ≤ 140737488351232 := by omega
  clear hT hb
  by_cases h : 300 < n
  · have t1 : decide ((300 : Int) < (n : Int)) = true := by rw [decide_eq_true_eq]; omega
    clear h hn
    go_enter Tryd.func12, Tryd.ntmps12
    go_wp2_with fail
    refine (X0.out _ HT.out).mono ?_
    rintro e w1 ⟨rfl, hB⟩
    go_wp2_with fail
    go_ret
    exact ⟨rfl, hB⟩
  · have t1 : decide ((300 : Int) < (n : Int)) = false := by rw [decide_eq_false_iff_not]; omega
    have hn3 : n ≤ 1000 := by omega
    have HN := Lib.hid hn3
    clear h hn hn3
    go_enter Tryd.func12, Tryd.ntmps12
    go_wp2_with fail
    refine (X0.out _ HT.out).mono ?_
    rintro e w1 ⟨rfl, hB⟩
    go_wp2_with fail
    obtain ⟨x, hx1, hx2, hk⟩ := key_any a w1
    refine hk.mono ?_
    rintro e w2 ⟨rfl, rfl⟩
    clear hk hx1 hx2 X0
    have hcell : ∀ i, i < 2 → (w2.alloc (.cells #[.int .i64 a, .int .i64 x] 3)).cell? ⟨w2.heap.size, i, none⟩ = some (.int .i64 (two a x i)) := fun i h => two_cell w2 a x i h
    have hsz : w2.heap.size < (w2.alloc (.cells #[.int .i64 a, .int .i64 x] 3)).heap.size := by rw [alloc_size]; exact Nat.lt_succ_self _
    replace hB := hB.alloc hB.size (.cells #[.int .i64 a, .int .i64 x] 3)
    go_wp2_with fail
    generalize w2.alloc (.cells #[.int .i64 a, .int .i64 x] 3) = wb at *
    have HC := Lib.hid hcell
    have HSZ := Lib.hid hsz
    have HBB := Lib.hid hB
    clear hcell hsz hB
    generalize w2.heap.size = D5 at *
    go_loopg [25] 2 (fun m y wr => ∃ i : Nat, i + m = 2 ∧ y = .int .i64 i ∧ Hid (Below wb.heap.size wb wr))
    case atStart => exact ⟨0, rfl, rfl, Lib.hid (Below.refl _ _)⟩
    case round =>
      obtain ⟨i, hi, rfl, hBr⟩ := hrel
      by_cases e0 : i < 2
      · have hc : wr.cell? ⟨D5, i, none⟩ = some (.int .i64 (two a x i)) := (hBr.out.cell (p := ⟨D5, i, none⟩) HSZ.out).trans (HC.out i e0)
        generalize two a x i = v at *
        obtain ⟨A, e, R, S, g, k1, k2, k3, k4⟩ := both_any v p n c f HN.out
        have K1 := Lib.hid k1
        have K2 := Lib.hid k2
        have K3 := Lib.hid (fun (W : World) (hb : Below w.heap.size w W) => k3 W (HT.out.below hb) (HB.out.below hb (Nat.le_refl _)))
        have K4 := Lib.hid (fun (W : World) (hb : Below w.heap.size w W) => k4 W (HB.out.below hb (Nat.le_refl _)))
        have hBw := HBB.out.trans (hBr.out.mono HBB.out.size)
        have HI := Lib.hid hi
        clear k1 k2 k3 k4 hi
        go_wp2_with fail
        refine (K1.out _).mono ?_
        rintro e2 w3 ⟨rfl, hb1⟩
        have HI2 := Lib.hid e0
        have hB2 := hBw.trans (hb1.mono hBw.size)
        have hR2 := Lib.hid (hBr.out.trans (hb1.mono hBr.out.size))
        clear hb1 hBw e0 hc K1
        go_wp2_with fail
        refine (K2.out _).mono ?_
        rintro e2 w4 ⟨rfl, rfl⟩
        go_wp2_with fail
        refine (K3.out _ hB2).mono ?_
        rintro e2 w5 ⟨rfl, hb1⟩
        have hB3 := hB2.trans (hb1.mono hB2.size)
        have hR3 := Lib.hid (hR2.out.trans (hb1.mono hR2.out.size))
        clear hb1 hB2 hR2 K2 K3
        have hV := VG.first w5 R S
        have hB4 := hB3.alloc hB3.size (.cells #[.int .i64 R, .int .i64 S] 61)
        have hR4 := Lib.hid (hR3.out.alloc hR3.out.size (.cells #[.int .i64 R, .int .i64 S] 61))
        go_wp2_with fail
        generalize w5.alloc (.cells #[.int .i64 R, .int .i64 S] 61) = w5b at *
        refine (K4.out _ hB4).mono ?_
        rintro e2 w6 ⟨rfl, hb1⟩
        have hR5 := hR4.out.trans (hb1.mono hR4.out.size)
        have hV2 := hV.next hb1 (Nat.le_refl _)
        have hW := VG.first w6 R S
        have hV3 := hV2.next ((Below.refl _ _).alloc (Nat.le_refl _) (.cells #[.int .i64 R, .int .i64 S] 61)) (Nat.le_refl _)
        have hR6 := Lib.hid (hR5.alloc hR5.size (.cells #[.int .i64 R, .int .i64 S] 61))
        have hv := hV3.all
        have hv2 := hW.all
        clear hb1 hB3 hR3 K4 hR4 hR5 hV2 hV hB4
        go_wp2_with fail
        go_roundg (2 - (i + 1))
        case rel => exact ⟨i + 1, by have := HI2.out; omega, by go_num, hR6⟩
        case measure => have := HI.out; have := HI2.out; omega
      · obtain rfl : i = 2 := by omega
        clear hi e0
        go_wp2_with fail
        go_ret
        exact ⟨rfl, HBB.out.trans (hBr.out.mono HBB.out.size)⟩
end Go.Proofs.YtelikpkekloffaaDoor
