/- chartroomlaw04.sane of this program, walked: it returns true. -/
import Derived.Test.YtelikpkekloffaaDoorMul
import Derived.Test.YtelikpkekloffaaDoorNum
namespace Go.Proofs.YtelikpkekloffaaDoor
open Go.RowKit

/-- the numbers that are no elements. -/
def noEls (i : Nat) : Int := [0, 4611686018427377339, 4611686018427377338, 2, -4, 4611686018427387904].getD i 0
theorem noEls_no (i : Nat) (h : i < 6) : Gp.isEl (noEls i) = false := by
  match i, h with
  | 0, _ => exact Gp.no0
  | 1, _ => exact Gp.noP
  | 2, _ => exact Gp.noP1
  | 3, _ => exact Gp.no2
  | 4, _ => exact Gp.no_4
  | 5, _ => exact Gp.noBig
theorem noEls_cell (w : World) (i : Nat) (h : i < 6) :
    (w.alloc (.cells #[.int .i64 0, .int .i64 4611686018427377339, .int .i64 4611686018427377338, .int .i64 2, .int .i64 (-4), .int .i64 4611686018427387904] 3)).cell? ⟨w.heap.size, i, none⟩ = some (.int .i64 (noEls i)) := by
  match i, h with
  | 0, _ => simp [World.cell?_alloc_new, noEls]
  | 1, _ => simp [World.cell?_alloc_new, noEls]
  | 2, _ => simp [World.cell?_alloc_new, noEls]
  | 3, _ => simp [World.cell?_alloc_new, noEls]
  | 4, _ => simp [World.cell?_alloc_new, noEls]
  | 5, _ => simp [World.cell?_alloc_new, noEls]

set_option maxRecDepth 100000 in
set_option maxHeartbeats 4000000 in
theorem sane4 (w : World) :
    Calls Tryd.prog 29 #[] w fun e w' => e = .returned (.bool true) ∧ Below w.heap.size w w' := by
  have x1 := fun w => mul_any 4 4 w
  have x2 := fun w => base_any 3 w
  have x3 := fun w => exp_any 4 (-1) w
  have x4 := fun w => exp_any 4 2305843009213688669 w
  have x5 := fun w => inv_any 1 w
  have x6 := fun w => inv_any 4 w
  have x7 := fun w => exp_any 16 0 w
  rw [Gp.ex1] at x1
  rw [Gp.ex2] at x2
  rw [Gp.ex3] at x3
  rw [Gp.ex4] at x4
  rw [Gp.ex5] at x5
  rw [Gp.ex6] at x6
  rw [Gp.ex7] at x7
  have X1 := Lib.hid x1
  have X2 := Lib.hid x2
  have X3 := Lib.hid x3
  have X4 := Lib.hid x4
  have X5 := Lib.hid x5
  have X6 := Lib.hid x6
  have X7 := Lib.hid x7
  clear x1 x2 x3 x4 x5 x6 x7
  go_enter Tryd.func29, Tryd.ntmps29
  go_wp2_with fail
  refine (X1.out _).mono ?_
  rintro e w1 ⟨rfl, hb1⟩
  go_wp2_with fail
  refine (X2.out _).mono ?_
  rintro e w2 ⟨rfl, hb2⟩
  go_wp2_with fail
  refine (X3.out _).mono ?_
  rintro e w3 ⟨rfl, hb3⟩
  go_wp2_with fail
  refine (X4.out _).mono ?_
  rintro e w4 ⟨rfl, hb4⟩
  go_wp2_with fail
  refine (X5.out _).mono ?_
  rintro e w5 ⟨rfl, hb5⟩
  go_wp2_with fail
  refine (X6.out _).mono ?_
  rintro e w6 ⟨rfl, hb6⟩
  go_wp2_with fail
  refine (X7.out _).mono ?_
  rintro e w7 ⟨rfl, hb7⟩
  have hB : Below w.heap.size w w7 := by
    have h2 := hb1.trans (hb2.mono hb1.size)
    have h3 := h2.trans (hb3.mono h2.size)
    have h4 := h3.trans (hb4.mono h3.size)
    have h5 := h4.trans (hb5.mono h4.size)
    have h6 := h5.trans (hb6.mono h5.size)
    exact h6.trans (hb7.mono h6.size)
  clear hb1 hb2 hb3 hb4 hb5 hb6 hb7 X1 X2 X3 X4 X5 X6 X7
  go_wp2_with fail
  have hcell := noEls_cell w7
  obtain ⟨wb, hwb⟩ : ∃ wb, wb = w7.alloc (.cells #[.int .i64 0, .int .i64 4611686018427377339, .int .i64 4611686018427377338, .int .i64 2, .int .i64 (-4), .int .i64 4611686018427387904] 3) := ⟨_, rfl⟩
  rw [← hwb] at hcell ⊢
  have hsz : w7.heap.size < wb.heap.size := by rw [hwb]; simp
  have hB2 : Below w.heap.size w wb := by rw [hwb]; exact hB.alloc hB.size _
  have HC := Lib.hid hcell
  have HSZ := Lib.hid hsz
  clear hwb hcell hsz
  go_loopg [47] 6 (fun m x wr => ∃ i : Nat, i + m = 6 ∧ x = .int .i64 i ∧ Below wb.heap.size wb wr)
  case atStart => exact ⟨0, rfl, rfl, Below.refl _ _⟩
  case round =>
    obtain ⟨i, hi, rfl, hBr⟩ := hrel
    by_cases e0 : i < 6
    · have hc : wr.cell? ⟨w7.heap.size, i, none⟩ = some (.int .i64 (noEls i)) := (hBr.cell (p := ⟨w7.heap.size, i, none⟩) HSZ.out).trans (HC.out i e0)
      have X := Lib.hid (fun w => check_no (noEls i) (noEls_no i e0) w)
      generalize noEls i = v at *
      have HI := Lib.hid hi
      clear hi
      go_wp2_with fail
      refine (X.out _).mono ?_
      rintro e w8 ⟨rfl, hb8⟩
      go_wp2_with fail
      go_roundg (6 - (i + 1))
      case rel => exact ⟨i + 1, by omega, by go_num, hBr.trans (hb8.mono hBr.size)⟩
      case measure => have := HI.out; omega
    · obtain rfl : i = 6 := by omega
      clear hi e0
      have C1 := Lib.hid (fun w => check_ok 1 Gp.el1 w)
      have C2 := Lib.hid (fun w => check_ok 4 Gp.el4 w)
      have C3 := Lib.hid (fun w => check_ok 16 Gp.el16 w)
      go_wp2_with fail
      refine (C1.out _).mono ?_
      rintro e w8 ⟨rfl, hb8⟩
      go_wp2_with fail
      refine (C2.out _).mono ?_
      rintro e w9 ⟨rfl, hb9⟩
      go_wp2_with fail
      refine (C3.out _).mono ?_
      rintro e w10 ⟨rfl, hb10⟩
      go_wp2_with fail
      go_ret
      have h1 := hB2.trans (hBr.mono hB2.size)
      have h2 := h1.trans (hb8.mono h1.size)
      have h3 := h2.trans (hb9.mono h2.size)
      exact ⟨rfl, h3.trans (hb10.mono h3.size)⟩
end Go.Proofs.YtelikpkekloffaaDoor
