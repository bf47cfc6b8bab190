/- The law SignDifference, walked: whatever its arguments, it returns true. -/
import Derived.Test.YtelikpkekloffaaDoorSane5
namespace Go.Proofs.YtelikpkekloffaaDoor
open Go.RowKit

set_option maxRecDepth 100000 in
set_option maxHeartbeats 4000000 in
theorem sd_big (a : Int) (p q : Option Addr) (n c m d : Nat) (w : World) (hT : Tabs w) (hn : n ≤ 140737488351232) (hm : m ≤ 140737488351232) (h : 300 < n ∨ 300 < m) :
    Calls Tryd.prog 18 #[.int .i64 a, .slice p n c, .slice q m d] w fun e w' => e = .returned (.bool true) ∧ Below w.heap.size w w' := by
  have X0 := Lib.hid (fun w hT => sane5 w hT)
  have HT := Lib.hid hT
  have b1 : (n : Int) ≤ 140737488351232 := by omega
  have b2 : (m : Int) ≤ 140737488351232 := by omega
  clear hT
  by_cases h1 : 300 < n
  · have t1 : decide ((300 : Int) < (n : Int)) = true := by rw [decide_eq_true_eq]; omega
    clear h h1 hn hm
    go_enter Tryd.func18, Tryd.ntmps18
    go_wp2_with fail
    refine (X0.out _ HT.out).mono ?_
    rintro e w1 ⟨rfl, hB⟩
    go_wp2_with fail
    go_ret
    exact ⟨rfl, hB⟩
  · have t1 : decide ((300 : Int) < (n : Int)) = false := by rw [decide_eq_false_iff_not]; omega
    have t2 : decide ((300 : Int) < (m : Int)) = true := by rw [decide_eq_true_eq]; omega
    clear h h1 hn hm
    go_enter Tryd.func18, Tryd.ntmps18
    go_wp2_with fail
    refine (X0.out _ HT.out).mono ?_
    rintro e w1 ⟨rfl, hB⟩
    go_wp2_with fail
    go_ret
    exact ⟨rfl, hB⟩

/-- what stands in the law's region that draws: both signatures' cells. -/
structure SDG (D1 : Nat) (x : World) (R1 S1 : Int) (D2 : Nat) (y : World) (R2 S2 : Int) (w W : World) : Prop where
  v : VG D1 x R1 S1 W
  u : VG D2 y R2 S2 W
  b : Below w.heap.size w W
theorem SDG.all {D1 : Nat} {x : World} {R1 S1 : Int} {D2 : Nat} {y : World} {R2 S2 : Int} {w W : World} (h : SDG D1 x R1 S1 D2 y R2 S2 w W) :
    W.cell? ⟨D1, 0, none⟩ = some (.int .i64 R1) ∧ W.cell? ⟨D2, 0, none⟩ = some (.int .i64 R2) ∧ SDG D1 x R1 S1 D2 y R2 S2 w W := ⟨h.v.all.1, h.u.all.1, h⟩
theorem SDG.step {D1 b : Nat} {x : World} {R1 S1 : Int} {D2 : Nat} {y : World} {R2 S2 : Int} {w W W' : World} (h : SDG D1 x R1 S1 D2 y R2 S2 w W) (hb : Below b W W') (hD : W.heap.size ≤ b) :
    W'.cell? ⟨D1, 0, none⟩ = some (.int .i64 R1) ∧ W'.cell? ⟨D2, 0, none⟩ = some (.int .i64 R2) ∧ SDG D1 x R1 S1 D2 y R2 S2 w W' :=
  SDG.all ⟨h.v.next hb hD, h.u.next hb hD, h.b.trans (hb.mono (Nat.le_trans h.b.size hD))⟩
theorem SDG.steps {D1 b : Nat} {x : World} {R1 S1 : Int} {D2 : Nat} {y : World} {R2 S2 : Int} {w W W' : World} (h : W.cell? ⟨D1, 0, none⟩ = some (.int .i64 R1) ∧ W.cell? ⟨D2, 0, none⟩ = some (.int .i64 R2) ∧ SDG D1 x R1 S1 D2 y R2 S2 w W)
    (hb : Below b W W') (hD : W.heap.size ≤ b) :
    W'.cell? ⟨D1, 0, none⟩ = some (.int .i64 R1) ∧ W'.cell? ⟨D2, 0, none⟩ = some (.int .i64 R2) ∧ SDG D1 x R1 S1 D2 y R2 S2 w W' := h.2.2.step hb hD

set_option maxRecDepth 100000 in
set_option maxHeartbeats 4000000 in
theorem sd_small (a : Int) (p q : Option Addr) (n c m d : Nat) (f g : Nat → Nat) (w : World) (hT : Tabs w) (hb : Bytes w p n c f) (hd : Bytes w q m d g) (hn : n ≤ 300) (hm : m ≤ 300) :
    Calls Tryd.prog 18 #[.int .i64 a, .slice p n c, .slice q m d] w fun e w' => e = .returned (.bool true) ∧ Below w.heap.size w w' := by
    have X0 := Lib.hid (fun w hT => sane5 w hT)
    have HT := Lib.hid hT
    have HB := Lib.hid hb
    have HD := Lib.hid hd
    have b1 : (n : Int) ≤ 300 := by omega
    have b2 : (m : Int) ≤ 300 := by omega
    have t1 : decide ((300 : Int) < (n : Int)) = false := by rw [decide_eq_false_iff_not]; omega
    have t2 : decide ((300 : Int) < (m : Int)) = false := by rw [decide_eq_false_iff_not]; omega
    have HN := Lib.hid (show n ≤ 1000 ∧ m ≤ 1000 by omega)
    clear hT hb hd hn hm
    go_enter Tryd.func18, Tryd.ntmps18
    go_wp2_with fail
    refine (X0.out _ HT.out).mono ?_
    rintro e w1 ⟨rfl, hB⟩
    go_wp2_with fail
    obtain ⟨x, hx1, hx2, hk⟩ := key_any a w1
    refine hk.mono ?_
    rintro e w2 ⟨rfl, rfl⟩
    have P1 := Lib.hid (fun w => pub_ok x hx1 hx2 w)
    have P2 := Lib.hid (fun (W : World) (hb : Below w.heap.size w W) => sign_ok x hx1 hx2 p n c f W (HT.out.below hb) (HB.out.below hb (Nat.le_refl _)) HN.out.1)
    have P3 := Lib.hid (fun (W : World) (hb : Below w.heap.size w W) => sign_ok x hx1 hx2 q m d g W (HT.out.below hb) (HD.out.below hb (Nat.le_refl _)) HN.out.2)
    have P4 := Lib.hid (fun w => fsub_ok (sgS x n f) (sgS x m g) (sgS_lt x n f) (sgS_lt x m g) w)
    have P5 := Lib.hid (fun (W : World) (hb : Below w.heap.size w W) => challenge_any (Gp.pw 4611686018427377339 4 x : Nat) (sgR x n f : Int) p n c f W (HT.out.below hb) (HB.out.below hb (Nat.le_refl _)) HN.out.1)
    have P6 := Lib.hid (fun (W : World) (hb : Below w.heap.size w W) => challenge_any (Gp.pw 4611686018427377339 4 x : Nat) (sgR x m g : Int) q m d g W (HT.out.below hb) (HD.out.below hb (Nat.le_refl _)) HN.out.2)
    have P7 := Lib.hid (fun w => fsub_ok (sgC x n f) (sgC x m g) (sgC_lt x n f) (sgC_lt x m g) w)
    have hI := (sgR_el x m g).pw 2305843009213688668
    have hQ := (sgR_el x n f).mu hI
    have hE := (Gp.el_four.pw x).pw ((sgC x n f + (2305843009213688669 - sgC x m g)) % 2305843009213688669)
    have P8 := Lib.hid (fun w => invE (sgR_el x m g) rfl w)
    have P9 := Lib.hid (fun w => mulE (sgR_el x n f) hI rfl w)
    have PA := Lib.hid (fun w => expE (Gp.el_four.pw x) (k := (sgC x n f + (2305843009213688669 - sgC x m g)) % 2305843009213688669) (Nat.mod_lt _ (by decide)) rfl w)
    have PB := Lib.hid (fun w => baseE (k := (sgS x n f + (2305843009213688669 - sgS x m g)) % 2305843009213688669) (Nat.mod_lt _ (by decide)) rfl w)
    have PC := Lib.hid (fun w => mulE hQ hE rfl w)
    rw [← sg_diff x n m f g] at PC
    unfold sgV at P2 P3
    rw [show chOf (sgR x n f : Int) (Gp.pw 4611686018427377339 4 x : Nat) n f = sgC x n f from rfl] at P5
    rw [show chOf (sgR x m g : Int) (Gp.pw 4611686018427377339 4 x : Nat) m g = sgC x m g from rfl] at P6
    clear hI hQ hE
    generalize Gp.pw 4611686018427377339 4 ((sgS x n f + (2305843009213688669 - sgS x m g)) % 2305843009213688669) = L at *
    generalize Gp.pw 4611686018427377339 (Gp.pw 4611686018427377339 4 x) ((sgC x n f + (2305843009213688669 - sgC x m g)) % 2305843009213688669) = E at *
    generalize Gp.mu 4611686018427377339 (sgR x n f) (Gp.pw 4611686018427377339 (sgR x m g) 2305843009213688668) = U at *
    generalize Gp.pw 4611686018427377339 (sgR x m g) 2305843009213688668 = I at *
    generalize (sgS x n f + (2305843009213688669 - sgS x m g)) % 2305843009213688669 = ds at *
    generalize (sgC x n f + (2305843009213688669 - sgC x m g)) % 2305843009213688669 = dc at *
    generalize Gp.pw 4611686018427377339 4 x = P at *
    generalize sgC x n f = C1 at *
    generalize sgR x n f = R1 at *
    generalize sgS x n f = S1 at *
    generalize sgC x m g = C2 at *
    generalize sgR x m g = R2 at *
    generalize sgS x m g = S2 at *
    clear hx1 hx2 hk X0
    go_wp2_with fail
    refine (P1.out _).mono ?_
    rintro e w3 ⟨rfl, hb1⟩
    replace hB := hB.trans (hb1.mono hB.size)
    clear hb1 P1
    go_wp2_with fail
    refine (P2.out _ hB).mono ?_
    rintro e w4 ⟨rfl, hb1⟩
    replace hB := hB.trans (hb1.mono hB.size)
    clear hb1 P2
    have hV := VG.first w4 R1 S1
    replace hB := hB.alloc hB.size (.cells #[.int .i64 R1, .int .i64 S1] 61)
    go_wp2_with fail
    generalize w4.alloc (.cells #[.int .i64 R1, .int .i64 S1] 61) = w5 at *
    refine (P3.out _ hB).mono ?_
    rintro e w6 ⟨rfl, hb1⟩
    replace hB := hB.trans (hb1.mono hB.size)
    replace hV := hV.next hb1 (Nat.le_refl _)
    clear hb1 P3
    have hW := VG.first w6 R2 S2
    replace hB := hB.alloc hB.size (.cells #[.int .i64 R2, .int .i64 S2] 61)
    replace hV := hV.next ((Below.refl _ _).alloc (Nat.le_refl _) (.cells #[.int .i64 R2, .int .i64 S2] 61)) (Nat.le_refl _)
    have vV := hV.all
    have vW := hW.all
    go_wp2_with fail
    generalize w6.alloc (.cells #[.int .i64 R2, .int .i64 S2] 61) = w7 at *
    refine (P4.out _).mono ?_
    rintro e w8 ⟨rfl, hb1⟩
    replace hB := hB.trans (hb1.mono hB.size)
    replace hV := hV.next hb1 (Nat.le_refl _)
    clear vV
    have vV := hV.all
    replace hW := hW.next hb1 (Nat.le_refl _)
    clear vW
    have vW := hW.all
    clear hb1 P4
    have P5' := Lib.hid (fun (W : World) (hs : W.cell? ⟨w4.heap.size, 0, none⟩ = some (.int .i64 R1) ∧ W.cell? ⟨w6.heap.size, 0, none⟩ = some (.int .i64 R2) ∧ SDG w4.heap.size w4 R1 S1 w6.heap.size w6 R2 S2 w W) => P5.out W hs.2.2.b)
    have P6' := Lib.hid (fun (W : World) (hs : W.cell? ⟨w4.heap.size, 0, none⟩ = some (.int .i64 R1) ∧ W.cell? ⟨w6.heap.size, 0, none⟩ = some (.int .i64 R2) ∧ SDG w4.heap.size w4 R1 S1 w6.heap.size w6 R2 S2 w W) => P6.out W hs.2.2.b)
    have hG : SDG w4.heap.size w4 R1 S1 w6.heap.size w6 R2 S2 w w8 := ⟨hV, hW, hB⟩
    clear P5 P6 hV hW hB
    go_wp2_with fail
    go_region_held3 (fun w' => w'.cell? ⟨w4.heap.size, 0, none⟩ = some (.int .i64 R1) ∧ w'.cell? ⟨w6.heap.size, 0, none⟩ = some (.int .i64 R2) ∧ SDG w4.heap.size w4 R1 S1 w6.heap.size w6 R2 S2 w w')
      (first
        | (refine SDG.step ?_ (Below.refl _ _).drew (Nat.le_refl _); assumption)
        | (refine SDG.steps ?_ hb1 (Nat.le_refl _); assumption))
      (first
        | (go_at_call 57; first | (with_reducible refine (P5'.out _ (by assumption)).mono ?_; rintro e w' ⟨rfl, hb1⟩) | (with_reducible refine (P6'.out _ (by assumption)).mono ?_; rintro e w' ⟨rfl, hb1⟩))
        | (go_at_call 28; refine (P7.out _).mono ?_; rintro e w' ⟨rfl, hb1⟩))
    rename_i hH
    obtain ⟨hV, hW, hB⟩ := hH.2.2
    clear hH P5' P6' P7 vV vW
    have vV := hV.all
    have vW := hW.all
    generalize w' = w11 at *
    go_wp2_with fail
    refine (P8.out _).mono ?_
    rintro e w12 ⟨rfl, hb1⟩
    replace hB := hB.trans (hb1.mono hB.size)
    replace hV := hV.next hb1 (Nat.le_refl _)
    clear vV
    have vV := hV.all
    replace hW := hW.next hb1 (Nat.le_refl _)
    clear vW
    have vW := hW.all
    clear hb1 P8
    go_wp2_with fail
    refine (P9.out _).mono ?_
    rintro e w13 ⟨rfl, hb1⟩
    replace hB := hB.trans (hb1.mono hB.size)
    replace hV := hV.next hb1 (Nat.le_refl _)
    clear vV
    have vV := hV.all
    replace hW := hW.next hb1 (Nat.le_refl _)
    clear vW
    have vW := hW.all
    clear hb1 P9
    go_wp2_with fail
    refine (PA.out _).mono ?_
    rintro e w14 ⟨rfl, hb1⟩
    replace hB := hB.trans (hb1.mono hB.size)
    replace hV := hV.next hb1 (Nat.le_refl _)
    clear vV
    have vV := hV.all
    replace hW := hW.next hb1 (Nat.le_refl _)
    clear vW
    have vW := hW.all
    clear hb1 PA
    go_wp2_with fail
    refine (PB.out _).mono ?_
    rintro e w15 ⟨rfl, hb1⟩
    replace hB := hB.trans (hb1.mono hB.size)
    replace hV := hV.next hb1 (Nat.le_refl _)
    clear vV
    have vV := hV.all
    replace hW := hW.next hb1 (Nat.le_refl _)
    clear vW
    have vW := hW.all
    clear hb1 PB
    go_wp2_with fail
    refine (PC.out _).mono ?_
    rintro e w16 ⟨rfl, hb1⟩
    replace hB := hB.trans (hb1.mono hB.size)
    replace hV := hV.next hb1 (Nat.le_refl _)
    clear vV
    have vV := hV.all
    replace hW := hW.next hb1 (Nat.le_refl _)
    clear vW
    have vW := hW.all
    clear hb1 PC
    go_wp2_with fail
    go_ret
    exact ⟨rfl, hB⟩

theorem signDifference_any (a : Int) (p q : Option Addr) (n c m d : Nat) (f g : Nat → Nat) (w : World) (hT : Tabs w) (hb : Bytes w p n c f) (hd : Bytes w q m d g) (hn : n ≤ 140737488351232) (hm : m ≤ 140737488351232) :
    Calls Tryd.prog 18 #[.int .i64 a, .slice p n c, .slice q m d] w fun e w' => e = .returned (.bool true) ∧ Below w.heap.size w w' := by
  by_cases h : 300 < n ∨ 300 < m
  · exact sd_big a p q n c m d w hT hn hm h
  · exact sd_small a p q n c m d f g w hT hb hd (by omega) (by omega)
end Go.Proofs.YtelikpkekloffaaDoor
