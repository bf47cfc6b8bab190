/- The law SignOnly, walked: whatever its arguments, it returns true. -/
import Derived.Test.YtelikpkekloffaaDoorSane5
namespace Go.Proofs.YtelikpkekloffaaDoor
open Go.RowKit

set_option maxHeartbeats 1000000 in
theorem of_all (n : Int) : ∃ y : Nat, y < 2305843009213688669 ∧ ∀ w : World, Calls Tryd.prog 58 #[.int .i64 n] w fun e w' => e = .returned (.int .i64 y) ∧ w' = w := by
  obtain ⟨m, e1, hm⟩ := and_mask n
  obtain ⟨y, hy⟩ : ∃ y, y = m % 2305843009213688669 := ⟨_, rfl⟩
  have e2 : (m : Int).tmod 2305843009213688669 = (y : Int) := by rw [Int.tmod_eq_emod_of_nonneg (by omega)]; omega
  have e3 : (m : Int) % 2305843009213688669 = (y : Int) := by omega
  refine ⟨y, by omega, fun w => ?_⟩
  have b1 : (m : Int) < 4611686018427387904 := by omega
  clear hm hy
  go_enter Tryd.func58, Tryd.ntmps58
  go_wp2_with fail
  go_ret
  exact ⟨rfl, rfl⟩

/-- what stands in the law's region that draws. -/
structure SOG (D : Nat) (x : World) (R S : Int) (w W : World) : Prop where
  v : VG D x R S W
  b : Below w.heap.size w W
theorem SOG.step {D b : Nat} {x : World} {R S : Int} {w W W' : World} (h : SOG D x R S w W) (hb : Below b W W') (hD : W.heap.size ≤ b) : W'.cell? ⟨D, 1, none⟩ = some (.int .i64 S) ∧ SOG D x R S w W' :=
  ⟨(h.v.next hb hD).all.2.1, h.v.next hb hD, h.b.trans (hb.mono (Nat.le_trans h.b.size hD))⟩
theorem SOG.steps {D b : Nat} {x : World} {R S : Int} {w W W' : World} (h : W.cell? ⟨D, 1, none⟩ = some (.int .i64 S) ∧ SOG D x R S w W) (hb : Below b W W') (hD : W.heap.size ≤ b) : W'.cell? ⟨D, 1, none⟩ = some (.int .i64 S) ∧ SOG D x R S w W' := h.2.step hb hD

/-- what stands in a round. -/
structure SOH (D : Nat) (x : World) (R S : Int) (w wr W : World) : Prop where
  g : SOG D x R S w W
  r : Below wr.heap.size wr W
theorem SOH.all {D : Nat} {x : World} {R S : Int} {w wr W : World} (h : SOH D x R S w wr W) : (W.cell? ⟨D, 0, none⟩ = some (.int .i64 R) ∧ W.cell? ⟨D, 1, none⟩ = some (.int .i64 S)) ∧ SOH D x R S w wr W := ⟨⟨h.g.v.all.1, h.g.v.all.2.1⟩, h⟩
theorem SOH.first {D : Nat} {x : World} {R S : Int} {w wr : World} (h : SOG D x R S w wr) : (wr.drew.cell? ⟨D, 0, none⟩ = some (.int .i64 R) ∧ wr.drew.cell? ⟨D, 1, none⟩ = some (.int .i64 S)) ∧ SOH D x R S w wr wr.drew :=
  SOH.all ⟨⟨h.v.next (Below.refl wr.heap.size wr).drew (Nat.le_refl _), h.b.drew⟩, (Below.refl _ _).drew⟩
theorem SOH.steps {D b : Nat} {x : World} {R S : Int} {w wr W W' : World} (h : (W.cell? ⟨D, 0, none⟩ = some (.int .i64 R) ∧ W.cell? ⟨D, 1, none⟩ = some (.int .i64 S)) ∧ SOH D x R S w wr W) (hb : Below b W W') (hD : W.heap.size ≤ b) :
    (W'.cell? ⟨D, 0, none⟩ = some (.int .i64 R) ∧ W'.cell? ⟨D, 1, none⟩ = some (.int .i64 S)) ∧ SOH D x R S w wr W' :=
  SOH.all ⟨⟨h.2.g.v.next hb hD, h.2.g.b.trans (hb.mono (Nat.le_trans h.2.g.b.size hD))⟩, h.2.r.trans (hb.mono (Nat.le_trans h.2.r.size hD))⟩

def four (a b c d : Int) (i : Nat) : Int := [a, b, c, d].getD i 0
theorem four_cell (w : World) (a b c d : Int) (i : Nat) (h : i < 4) : (w.alloc (.cells #[.int .i64 a, .int .i64 b, .int .i64 c, .int .i64 d] 3)).cell? ⟨w.heap.size, i, none⟩ = some (.int .i64 (four a b c d i)) := by
  match i, h with
  | 0, _ => simp [World.cell?_alloc_new, four]
  | 1, _ => simp [World.cell?_alloc_new, four]
  | 2, _ => simp [World.cell?_alloc_new, four]
  | 3, _ => simp [World.cell?_alloc_new, four]

set_option maxRecDepth 100000 in
set_option maxHeartbeats 4000000 in
theorem signOnly_any (a : Int) (p : Option Addr) (n c : Nat) (f : Nat → Nat) (o : Int) (w : World) (hT : Tabs w) (hb : Bytes w p n c f) (hn : n ≤ 140737488351232) :
    Calls Tryd.prog 16 #[.int .i64 a, .slice p n c, .int .i64 o] w fun e w' => e = .returned (.bool true) ∧ Below w.heap.size w w' := by
  have X0 := Lib.hid (fun w hT => sane5 w hT)
  have HT := Lib.hid hT
  have HB := Lib.hid hb
  have b1 : (n : Int) ≤ 140737488351232 := by omega
  clear hT hb
  by_cases h : 300 < n
  · have t1 : decide ((300 : Int) < (n : Int)) = true := by rw [decide_eq_true_eq]; omega
    clear h hn
    go_enter Tryd.func16, Tryd.ntmps16
    go_wp2_with fail
    refine (X0.out _ HT.out).mono ?_
    rintro e w1 ⟨rfl, hB⟩
    go_wp2_with fail
    go_ret
    exact ⟨rfl, hB⟩
  · have t1 : decide ((300 : Int) < (n : Int)) = false := by rw [decide_eq_false_iff_not]; omega
    have hn3 : n ≤ 1000 := by omega
    have HN := Lib.hid hn3
    clear h hn hn3
    go_enter Tryd.func16, Tryd.ntmps16
    go_wp2_with fail
    refine (X0.out _ HT.out).mono ?_
    rintro e w1 ⟨rfl, hB⟩
    go_wp2_with fail
    obtain ⟨x, hx1, hx2, hk⟩ := key_any a w1
    refine hk.mono ?_
    rintro e w2 ⟨rfl, rfl⟩
    have P1 := Lib.hid (fun w => pub_ok x hx1 hx2 w)
    have P2 := Lib.hid (fun (W : World) (hb : Below w.heap.size w W) => sign_ok x hx1 hx2 p n c f W (HT.out.below hb) (HB.out.below hb (Nat.le_refl _)) HN.out)
    have P6 := Lib.hid (fun (j : Int) (W : World) (hb : Below w.heap.size w W) => verify_any (Gp.pw 4611686018427377339 4 x : Nat) (sgR x n f : Int) j p n c f W (HT.out.below hb) (HB.out.below hb (Nat.le_refl _)) HN.out)
    simp only [vfy_sg] at P6
    have bS : (sgS x n f : Int) < 2305843009213688669 := by have := sgS_lt x n f; omega
    unfold sgV at P2
    generalize Gp.pw 4611686018427377339 4 x = P at *
    generalize sgR x n f = R at *
    generalize sgS x n f = S at *
    obtain ⟨y, hy, hof⟩ := of_all o
    have P3 := Lib.hid hof
    have by1 : (y : Int) < 2305843009213688669 := by omega
    clear hx1 hx2 hk X0 hy hof
    go_wp2_with fail
    refine (P1.out _).mono ?_
    rintro e w3 ⟨rfl, hb1⟩
    replace hB := hB.trans (hb1.mono hB.size)
    clear hb1 P1
    go_wp2_with fail
    refine (P2.out _ hB).mono ?_
    rintro e w4 ⟨rfl, hb1⟩
    replace hB := hB.trans (hb1.mono hB.size)
    clear hb1 P2
    have hV := VG.first w4 R S
    replace hB := hB.alloc hB.size (.cells #[.int .i64 R, .int .i64 S] 61)
    have hv := hV.all
    go_wp2_with fail
    generalize w4.alloc (.cells #[.int .i64 R, .int .i64 S] 61) = w5 at *
    obtain ⟨s2, hs2⟩ : ∃ s2 : Int, s2 = (S : Int) + 2305843009213688669 := ⟨_, rfl⟩
    obtain ⟨s3, hs3⟩ : ∃ s3 : Int, s3 = (S : Int) - 2305843009213688669 := ⟨_, rfl⟩
    have wr2 : IntKind.i64.wrap ((S : Int) + 2305843009213688669) = s2 := by rw [hs2, IntKind.wrap_i64]; omega
    have wr3 : IntKind.i64.wrap ((S : Int) - 2305843009213688669) = s3 := by rw [hs3, IntKind.wrap_i64]; omega
    clear hs2 hs3
    have hG : SOG w4.heap.size w4 R S w w5 := ⟨hV, hB⟩
    clear hV hB
    go_region_held3 (fun w' => w'.cell? ⟨w4.heap.size, 1, none⟩ = some (.int .i64 S) ∧ SOG w4.heap.size w4 R S w w')
      (first
        | assumption
        | (refine SOG.step ?_ (Below.refl _ _).drew (Nat.le_refl _); assumption)
        | (refine SOG.step ?_ ((Below.refl _ _).alloc (Nat.le_refl _) _).drew (Nat.le_refl _); assumption)
        | (refine SOG.steps ?_ ((Below.refl _ _).alloc (Nat.le_refl _) _) (Nat.le_refl _); assumption))
      (first | (go_at_call 58; refine (P3.out _).mono ?_; rintro e w' ⟨rfl, rfl⟩))
    rename_i hH
    have hcell : ∀ i, i < 4 → (w5.alloc (.cells #[.int .i64 o, .int .i64 y, .int .i64 s2, .int .i64 s3] 3)).drew.cell? ⟨w5.heap.size, i, none⟩ = some (.int .i64 (four o y s2 s3 i)) := fun i h => four_cell w5 o y s2 s3 i h
    have hsz : w5.heap.size < (w5.alloc (.cells #[.int .i64 o, .int .i64 y, .int .i64 s2, .int .i64 s3] 3)).drew.heap.size := by show _ < (w5.alloc _).heap.size; rw [alloc_size]; exact Nat.lt_succ_self _
    have hG2 := hH.2
    clear hH hG hv P3 wr2 wr3 bS by1
    generalize (w5.alloc (.cells #[.int .i64 o, .int .i64 y, .int .i64 s2, .int .i64 s3] 3)).drew = wb at *
    have HC := Lib.hid hcell
    have HSZ := Lib.hid hsz
    have HG := Lib.hid hG2
    clear hcell hsz hG2
    generalize w5.heap.size = D5 at *
    generalize w4.heap.size = D4 at *
    go_wp2_with fail
    go_loopg [49] 4 (fun m x wr => ∃ i : Nat, i + m = 4 ∧ x = .int .i64 i ∧ Hid (Below wb.heap.size wb wr))
    case atStart => exact ⟨0, rfl, rfl, Lib.hid (Below.refl _ _)⟩
    case round =>
      obtain ⟨i, hi, rfl, hBr⟩ := hrel
      by_cases e0 : i < 4
      · have hc : wr.cell? ⟨D5, i, none⟩ = some (.int .i64 (four o y s2 s3 i)) := (hBr.out.cell (p := ⟨D5, i, none⟩) HSZ.out).trans (HC.out i e0)
        have hG : SOG D4 w4 R S w wr := ⟨HG.out.v.next hBr.out (Nat.le_refl _), HG.out.b.trans (hBr.out.mono HG.out.b.size)⟩
        have hv := hG.v.all
        generalize four o y s2 s3 i = j at *
        have HI := Lib.hid hi
        clear hi
        go_wp2_with fail
        have HI4 := Lib.hid e0
        have hG' : SOG D4 w4 R S w wr := hG
        clear e0 hc hG hv
        have P7 := Lib.hid (fun (W : World) (hs : (W.cell? ⟨D4, 0, none⟩ = some (.int .i64 R) ∧ W.cell? ⟨D4, 1, none⟩ = some (.int .i64 S)) ∧ SOH D4 w4 R S w wr W) => P6.out j W hs.2.1.b)
        go_region_held3 (fun w' => (w'.cell? ⟨D4, 0, none⟩ = some (.int .i64 R) ∧ w'.cell? ⟨D4, 1, none⟩ = some (.int .i64 S)) ∧ SOH D4 w4 R S w wr w')
          (first
            | assumption
            | (refine SOH.first ?_ ; assumption)
            | (refine SOH.steps ?_ hb1 (Nat.le_refl _); assumption))
          (first | (go_at_call 54; refine (P7.out _ (by assumption)).mono ?_; rintro e w' ⟨rfl, hb1⟩))
        rename_i hH
        have hR := Lib.hid hH.2.r
        clear hH P7 hG'
        cases hj : (j == (S : Int)) with
        | false =>
          go_wp2_with fail
          go_roundg (4 - (i + 1))
          case rel => exact ⟨i + 1, by have := HI4.out; omega, by go_num, Lib.hid (hBr.out.trans (hR.out.mono hBr.out.size))⟩
          case measure => have := HI.out; have := HI4.out; omega
        | true =>
          go_wp2_with fail
          go_roundg (4 - (i + 1))
          case rel => exact ⟨i + 1, by have := HI4.out; omega, by go_num, Lib.hid (hBr.out.trans (hR.out.mono hBr.out.size))⟩
          case measure => have := HI.out; have := HI4.out; omega
      · obtain rfl : i = 4 := by omega
        clear hi e0
        go_wp2_with fail
        go_ret
        exact ⟨rfl, HG.out.b.trans (hBr.out.mono HG.out.b.size)⟩
end Go.Proofs.YtelikpkekloffaaDoor
