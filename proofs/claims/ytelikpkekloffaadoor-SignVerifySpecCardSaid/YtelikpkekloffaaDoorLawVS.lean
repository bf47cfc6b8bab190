/- The law SignVerifySpec, walked: whatever its arguments, it returns true. -/
import Derived.Test.YtelikpkekloffaaDoorRefSg
namespace Go.Proofs.YtelikpkekloffaaDoor
open Go.RowKit

set_option maxRecDepth 100000 in
set_option maxHeartbeats 4000000 in
theorem signVerifySpec_any (pub R S : Int) (p : Option Addr) (n c : Nat) (f : Nat → Nat) (w : World) (hT : Tabs w) (hb : Bytes w p n c f) (hn : n ≤ 140737488351232) :
    Calls Tryd.prog 13 #[.int .i64 pub, .slice p n c, .agg #[.int .i64 R, .int .i64 S]] w fun e w' => e = .returned (.bool true) ∧ Below w.heap.size w w' := by
  have X0 := Lib.hid (fun w hT => sane5 w hT)
  have HT := Lib.hid hT
  have HB := Lib.hid hb
  have b1 : (n : Int) ≤ 140737488351232 := by omega
  clear hT hb
  by_cases h : 300 < n
  · have t1 : decide ((300 : Int) < (n : Int)) = true := by rw [decide_eq_true_eq]; omega
    clear h hn
    go_enter Tryd.func13, Tryd.ntmps13
    go_wp2_with fail
    have hA := (Below.refl w.heap.size w).alloc (Nat.le_refl _) (.cells #[.int .i64 R, .int .i64 S] 61)
    refine (X0.out _ (HT.out.below hA)).mono ?_
    rintro e w1 ⟨rfl, hb1⟩
    have hB := hA.trans (hb1.mono hA.size)
    clear hb1 hA
    go_wp2_with fail
    go_ret
    exact ⟨rfl, hB⟩
  · have t1 : decide ((300 : Int) < (n : Int)) = false := by rw [decide_eq_false_iff_not]; omega
    have hn3 : n ≤ 1000 := by omega
    have HN := Lib.hid hn3
    have P5 := Lib.hid (fun (W : World) (hb : Below w.heap.size w W) => verify_any pub R S p n c f W (HT.out.below hb) (HB.out.below hb (Nat.le_refl _)) HN.out)
    have P6 := Lib.hid (fun (W : World) (hb : Below w.heap.size w W) => r5_verify pub R S p n c f W (HB.out.below hb (Nat.le_refl _)) HN.out)
    obtain ⟨r, hr⟩ : ∃ r, r = vfy pub R S n f := ⟨_, rfl⟩
    rw [← hr] at P5 P6
    clear h hn hn3 hr
    go_enter Tryd.func13, Tryd.ntmps13
    go_upto_region 1 with fail
    have hV := VG.first w R S
    have hB := (Below.refl w.heap.size w).alloc (Nat.le_refl _) (.cells #[.int .i64 R, .int .i64 S] 61)
    generalize w.alloc (.cells #[.int .i64 R, .int .i64 S] 61) = w0 at *
    go_wp2_with fail
    refine (X0.out _ (HT.out.below hB)).mono ?_
    rintro e w1 ⟨rfl, hb1⟩
    replace hB := hB.trans (hb1.mono hB.size)
    replace hV := hV.next hb1 (Nat.le_refl _)
    have hv := hV.all
    clear hb1 X0
    have P5' := Lib.hid (fun (W : World) (hs : W.cell? ⟨w.heap.size, 0, none⟩ = some (.int .i64 R) ∧ W.cell? ⟨w.heap.size, 1, none⟩ = some (.int .i64 S) ∧ VG w.heap.size w R S W) => P5.out W hs.2.2.below)
    have P6' := Lib.hid (fun (W : World) (hs : W.cell? ⟨w.heap.size, 0, none⟩ = some (.int .i64 R) ∧ W.cell? ⟨w.heap.size, 1, none⟩ = some (.int .i64 S) ∧ VG w.heap.size w R S W) => P6.out W hs.2.2.below)
    clear P5 P6 hB hv
    go_wp2_with fail
    go_region_held3 (fun w' => w'.cell? ⟨w.heap.size, 0, none⟩ = some (.int .i64 R) ∧ w'.cell? ⟨w.heap.size, 1, none⟩ = some (.int .i64 S) ∧ VG w.heap.size w R S w')
      (first
        | (refine VG.step ?_ (Below.refl _ _).drew (Nat.le_refl _); assumption)
        | (refine VG.steps ?_ hb1 (Nat.le_refl _); assumption))
      (first
        | (go_at_call 54; with_reducible refine (P5'.out _ (by assumption)).mono ?_; rintro e w' ⟨rfl, hb1⟩)
        | (go_at_call 55; with_reducible refine (P6'.out _ (by assumption)).mono ?_; rintro e w' ⟨rfl, hb1⟩))
    rename_i hH
    have hB := hH.2.2.below
    clear hH P5' P6' hV
    cases r with
    | false =>
      go_wp2_with fail
      go_ret
      exact ⟨rfl, hB⟩
    | true =>
      go_wp2_with fail
      go_ret
      exact ⟨rfl, hB⟩
end Go.Proofs.YtelikpkekloffaaDoor
