/- The law SignEquation, walked: whatever its arguments, it returns true. -/
import Derived.Test.YtelikpkekloffaaDoorSane5
namespace Go.Proofs.YtelikpkekloffaaDoor
open Go.RowKit

theorem pair_eq (p : Int × Int) : ∃ a b, p = (a, b) := by
  cases p; exact ⟨_, _, rfl⟩
theorem gExp_none {a k : Int} (h : Gp.isEl a = false) : Gp.gExp a k = (0, 40) := by unfold Gp.gExp; rw [h, if_neg (by decide)]
theorem gMul_no {a b : Int} (h : Gp.isEl a = false) : Gp.gMul a b = (0, 40) := by unfold Gp.gMul; rw [h, if_neg (by decide)]
theorem vfy_noR (pub R S : Int) (n : Nat) (f : Nat → Nat) (h : Gp.isEl R = false) : vfy pub R S n f = false := by
  unfold vfy Gp.gChk; rw [h, if_neg (by simp)]
/-- Verify is the equation of the method, where each step has no error. -/
theorem eq_law (pub R S : Int) (n : Nat) (f : Nat → Nat) : ∃ a e b f' c g : Int,
    Gp.gExp 4 S = (a, e) ∧ Gp.gExp pub (chOf R pub n f : Nat) = (b, f') ∧ Gp.gMul R b = (c, g) ∧ (vfy pub R S n f = (e == 0 && f' == 0 && g == 0 && a == c)) := by
  obtain ⟨a, e, h1⟩ := pair_eq (Gp.gExp 4 S)
  obtain ⟨b, f', h2⟩ := pair_eq (Gp.gExp pub (chOf R pub n f : Nat))
  obtain ⟨c, g, h3⟩ := pair_eq (Gp.gMul R b)
  refine ⟨a, e, b, f', c, g, h1, h2, h3, ?_⟩
  have hc : Gp.isSc (chOf R pub n f : Nat) = true := Gp.isSc_of (scOf_lt _ _ _)
  cases hS : Gp.isSc S with
  | false =>
    rw [Gp.gExp_arg Gp.el4 hS] at h1
    obtain ⟨rfl, rfl⟩ := Prod.mk.inj h1
    rw [vfy_noS _ _ _ _ _ hS, show ((1 : Int) == 0) = false by decide]
    rfl
  | true =>
    cases hp : Gp.isEl pub with
    | false =>
      rw [gExp_none hp] at h2
      obtain ⟨rfl, rfl⟩ := Prod.mk.inj h2
      rw [vfy_no1 _ _ _ _ _ hp, show ((40 : Int) == 0) = false by decide, Bool.and_false]
      rfl
    | true =>
      cases hR : Gp.isEl R with
      | false =>
        rw [gMul_no hR] at h3
        obtain ⟨rfl, rfl⟩ := Prod.mk.inj h3
        rw [vfy_noR _ _ _ _ _ hR, show ((40 : Int) == 0) = false by decide, Bool.and_false]
        rfl
      | true =>
        obtain ⟨x, ea, _⟩ := Gp.isEl_nat hp
        obtain ⟨s, es, hs⟩ := Gp.isSc_nat hS
        obtain ⟨y, eb, _⟩ := Gp.isEl_nat hR
        have hx := hp
        rw [ea] at hx
        replace hx := Gp.El.of hx
        have hy := hR
        rw [eb] at hy
        replace hy := Gp.El.of hy
        rw [es] at hS h1
        rw [Gp.gExp_ok Gp.el4 hS, Int.toNat_natCast, show (4 : Int).toNat = 4 from rfl] at h1
        rw [Gp.gExp_ok hp hc] at h2
        obtain ⟨rfl, rfl⟩ := Prod.mk.inj h1
        obtain ⟨rfl, rfl⟩ := Prod.mk.inj h2
        have hw := (hx.pw (chOf R pub n f)).is
        rw [ea] at hw h3 ⊢
        rw [Int.toNat_natCast, Int.toNat_natCast, Gp.gMul_ok hR hw] at h3
        obtain ⟨rfl, rfl⟩ := Prod.mk.inj h3
        rw [eb, vfy_at x y S n f hx hy s es hs, Int.toNat_natCast, Int.toNat_natCast, show ((0 : Int) == 0) = true by decide, Bool.true_and, Bool.true_and, Bool.true_and, beq_cast]

set_option maxRecDepth 100000 in
set_option maxHeartbeats 4000000 in
theorem signEquation_any (pub R S : Int) (p : Option Addr) (n c : Nat) (f : Nat → Nat) (w : World) (hT : Tabs w) (hb : Bytes w p n c f) (hn : n ≤ 140737488351232) :
    Calls Tryd.prog 15 #[.int .i64 pub, .slice p n c, .agg #[.int .i64 R, .int .i64 S]] w fun e w' => e = .returned (.bool true) ∧ Below w.heap.size w w' := by
  have X0 := Lib.hid (fun w hT => sane5 w hT)
  have HT := Lib.hid hT
  have HB := Lib.hid hb
  have b1 : (n : Int) ≤ 140737488351232 := by omega
  clear hT hb
  by_cases h : 300 < n
  · have t1 : decide ((300 : Int) < (n : Int)) = true := by rw [decide_eq_true_eq]; omega
    clear h hn
    go_enter Tryd.func15, Tryd.ntmps15
    go_wp2_with fail
    have hA := (Below.refl w.heap.size w).alloc (Nat.le_refl _) (.cells #[.int .i64 R, .int .i64 S] 61)
    refine (X0.out _ (HT.out.below hA)).mono ?_
    rintro e w1 ⟨rfl, hb1⟩
    have hB := hA.trans (hb1.mono hA.size)
    clear hb1 hA
    go_wp2_with fail
    go_ret
    exact ⟨rfl, hB⟩
  · have t1 : decide ((300 : Int) < (n : Int)) = false := by rw [decide_eq_false_iff_not]; omega
    have hn3 : n ≤ 1000 := by omega
    have HN := Lib.hid hn3
    obtain ⟨A, e1, B, e2, C, e3, q1, q2, q3, hq⟩ := eq_law pub R S n f
    have P1 := Lib.hid (fun w => base_any S w)
    have P2 := Lib.hid (fun (W : World) (hb : Below w.heap.size w W) => challenge_any pub R p n c f W (HT.out.below hb) (HB.out.below hb (Nat.le_refl _)) HN.out)
    have P3 := Lib.hid (fun w => exp_any pub (chOf R pub n f : Nat) w)
    have P4 := Lib.hid (fun w => mul_any R B w)
    have P5 := Lib.hid (fun (W : World) (hb : Below w.heap.size w W) => verify_any pub R S p n c f W (HT.out.below hb) (HB.out.below hb (Nat.le_refl _)) HN.out)
    rw [q1] at P1
    rw [q2] at P3
    rw [q3] at P4
    rw [hq] at P5
    generalize chOf R pub n f = K at *
    clear h hn hn3 q1 q2 q3 hq
    go_enter Tryd.func15, Tryd.ntmps15
    go_upto_region 1 with fail
    have hV := VG.first w R S
    have hB := (Below.refl w.heap.size w).alloc (Nat.le_refl _) (.cells #[.int .i64 R, .int .i64 S] 61)
    generalize w.alloc (.cells #[.int .i64 R, .int .i64 S] 61) = w0 at *
    go_wp2_with fail
    refine (X0.out _ (HT.out.below hB)).mono ?_
    rintro e w1 ⟨rfl, hb1⟩
    replace hB := hB.trans (hb1.mono hB.size)
    replace hV := hV.next hb1 (Nat.le_refl _)
    have hv := hV.all
    clear hb1 X0
    go_wp2_with fail
    refine (P1.out _).mono ?_
    rintro e w2 ⟨rfl, hb1⟩
    replace hB := hB.trans (hb1.mono hB.size)
    replace hV := hV.next hb1 (Nat.le_refl _)
    clear hv
    have hv := hV.all
    clear hb1 P1
    go_wp2_with fail
    refine (P2.out _ hB).mono ?_
    rintro e w3 ⟨rfl, hb1⟩
    replace hB := hB.trans (hb1.mono hB.size)
    replace hV := hV.next hb1 (Nat.le_refl _)
    clear hv
    have hv := hV.all
    clear hb1 P2
    go_wp2_with fail
    refine (P3.out _).mono ?_
    rintro e w4 ⟨rfl, hb1⟩
    replace hB := hB.trans (hb1.mono hB.size)
    replace hV := hV.next hb1 (Nat.le_refl _)
    clear hv
    have hv := hV.all
    clear hb1 P3
    go_wp2_with fail
    refine (P4.out _).mono ?_
    rintro e w5 ⟨rfl, hb1⟩
    replace hB := hB.trans (hb1.mono hB.size)
    replace hV := hV.next hb1 (Nat.le_refl _)
    clear hv
    have hv := hV.all
    clear hb1 P4
    go_wp2_with fail
    refine (P5.out _ hB).mono ?_
    rintro e w6 ⟨rfl, hb1⟩
    replace hB := hB.trans (hb1.mono hB.size)
    clear hb1 P5 hv hV
    cases h1 : (e1 == (0 : Int)) with
    | false =>
      go_wp2_with fail
      go_ret
      exact ⟨rfl, hB⟩
    | true =>
      cases h2 : (e2 == (0 : Int)) with
      | false =>
        go_wp2_with fail
        go_ret
        exact ⟨rfl, hB⟩
      | true =>
        cases h3 : (e3 == (0 : Int)) with
        | false =>
          go_wp2_with fail
          go_ret
          exact ⟨rfl, hB⟩
        | true =>
          cases h4 : (A == C) with
          | false =>
            go_wp2_with fail
            go_ret
            exact ⟨rfl, hB⟩
          | true =>
            go_wp2_with fail
            go_ret
            exact ⟨rfl, hB⟩
end Go.Proofs.YtelikpkekloffaaDoor
