/- The law SignVerifies, walked: whatever its arguments, it returns true. -/
import Derived.Test.YtelikpkekloffaaDoorSane5
namespace Go.Proofs.YtelikpkekloffaaDoor
open Go.RowKit

set_option maxRecDepth 100000 in
set_option maxHeartbeats 4000000 in
theorem signVerifies_any (a : Int) (p : Option Addr) (n c : Nat) (f : Nat → Nat) (w : World) (hT : Tabs w) (hb : Bytes w p n c f) (hn : n ≤ 140737488351232) :
    Calls Tryd.prog 14 #[.int .i64 a, .slice p n c] w fun e w' => e = .returned (.bool true) ∧ Below w.heap.size w w' := by
  have X0 := Lib.hid (fun w hT => sane5 w hT)
  have HT := Lib.hid hT
  have HB := Lib.hid hb
  have b1 : (n : Int) ≤ 140737488351232 := by omega
  clear hT hb
  by_cases h : 300 < n
  · have t1 : decide ((300 : Int) < (n : Int)) = true := by rw [decide_eq_true_eq]; omega
    clear h hn
    go_enter Tryd.func14, Tryd.ntmps14
    go_wp2_with fail
    refine (X0.out _ HT.out).mono ?_
    rintro e w1 ⟨rfl, hB⟩
    go_wp2_with fail
    go_ret
    exact ⟨rfl, hB⟩
  · have t1 : decide ((300 : Int) < (n : Int)) = false := by rw [decide_eq_false_iff_not]; omega
    have hn3 : n ≤ 1000 := by omega
    have HN := Lib.hid hn3
    clear h hn hn3
    go_enter Tryd.func14, Tryd.ntmps14
    go_wp2_with fail
    refine (X0.out _ HT.out).mono ?_
    rintro e w1 ⟨rfl, hB⟩
    go_wp2_with fail
    obtain ⟨x, hx1, hx2, hk⟩ := key_any a w1
    refine hk.mono ?_
    rintro e w2 ⟨rfl, rfl⟩
    have P1 := Lib.hid (fun w => pub_ok x hx1 hx2 w)
    have P2 := Lib.hid (fun (W : World) (hb : Below w.heap.size w W) => sign_ok x hx1 hx2 p n c f W (HT.out.below hb) (HB.out.below hb (Nat.le_refl _)) HN.out)
    have P3 := Lib.hid (fun w => checkE (Gp.el_four.pw x) w)
    have P4 := Lib.hid (fun w => checkE (sgR_el x n f) w)
    have P5 := Lib.hid (fun w => fcheck_ok (sgS x n f : Int) (Gp.isSc_of (sgS_lt x n f)) w)
    have P6 := Lib.hid (fun (W : World) (hb : Below w.heap.size w W) => verify_any (Gp.pw 4611686018427377339 4 x : Nat) (sgR x n f : Int) (sgS x n f : Int) p n c f W (HT.out.below hb) (HB.out.below hb (Nat.le_refl _)) HN.out)
    rw [vfy_own] at P6
    unfold sgV at P2
    generalize Gp.pw 4611686018427377339 4 x = P at *
    generalize sgR x n f = R at *
    generalize sgS x n f = S at *
    clear hx1 hx2 hk X0
    go_wp2_with fail
    refine (P1.out _).mono ?_
    rintro e w3 ⟨rfl, hb1⟩
    replace hB := hB.trans (hb1.mono hB.size)
    clear hb1 P1
    go_wp2_with fail
    refine (P2.out _ hB).mono ?_
    rintro e w4 ⟨rfl, hb1⟩
    replace hB := hB.trans (hb1.mono hB.size)
    clear hb1 P2
    have hV := VG.first w4 R S
    replace hB := hB.alloc hB.size (.cells #[.int .i64 R, .int .i64 S] 61)
    go_wp2_with fail
    generalize w4.alloc (.cells #[.int .i64 R, .int .i64 S] 61) = w5 at *
    refine (P3.out _).mono ?_
    rintro e w6 ⟨rfl, hb1⟩
    replace hB := hB.trans (hb1.mono hB.size)
    replace hV := hV.next hb1 (Nat.le_refl _)
    have hv := hV.all
    clear hb1 P3
    go_wp2_with fail
    refine (P4.out _).mono ?_
    rintro e w7 ⟨rfl, hb1⟩
    replace hB := hB.trans (hb1.mono hB.size)
    replace hV := hV.next hb1 (Nat.le_refl _)
    clear hv
    have hv := hV.all
    clear hb1 P4
    go_wp2_with fail
    refine (P5.out _).mono ?_
    rintro e w8 ⟨rfl, hb1⟩
    replace hB := hB.trans (hb1.mono hB.size)
    replace hV := hV.next hb1 (Nat.le_refl _)
    clear hv
    have hv := hV.all
    clear hb1 P5
    go_wp2_with fail
    refine (P6.out _ hB).mono ?_
    rintro e w9 ⟨rfl, hb1⟩
    replace hB := hB.trans (hb1.mono hB.size)
    clear hb1 P6 hv hV
    go_wp2_with fail
    go_ret
    exact ⟨rfl, hB⟩
end Go.Proofs.YtelikpkekloffaaDoor
