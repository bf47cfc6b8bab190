/- chartroomlaw05.sane of this program, walked: it returns true. -/
import Derived.Test.YtelikpkekloffaaDoorVerify
import Derived.Test.YtelikpkekloffaaDoorSignN
import Derived.Test.YtelikpkekloffaaDoorSgL
namespace Go.Proofs.YtelikpkekloffaaDoor
open Go.RowKit

theorem VG.store {D : Nat} {w W : World} {R S R' S' : Int} (h : VG D w R S W) : VG D w R' S' ((W.setCell ⟨D, 0, none⟩ (.int .i64 R')).setCell ⟨D, 1, none⟩ (.int .i64 S')) := by
  refine ⟨h.1, (h.2.setCell (p := ⟨D, 0, none⟩) (Nat.le_refl _) _).setCell (p := ⟨D, 1, none⟩) (Nat.le_refl _) _, ?_⟩
  simp [World.setCell, Array.getElem?_modify, h.obj]
theorem VG.first (w : World) (R S : Int) : VG w.heap.size w R S (w.alloc (.cells #[.int .i64 R, .int .i64 S] 61)) := by
  refine ⟨Nat.le_refl _, (Below.refl _ _).alloc (Nat.le_refl _) _, ?_⟩
  show (w.heap.push _)[w.heap.size]? = _
  rw [Array.getElem?_push, if_pos rfl]
theorem vfy_no1 (pub R S : Int) (n : Nat) (f : Nat → Nat) (h : Gp.isEl pub = false) : vfy pub R S n f = false := by
  unfold vfy Gp.gChk; rw [h]; rfl
theorem vfy_noS (pub R S : Int) (n : Nat) (f : Nat → Nat) (h : Gp.isSc S = false) : vfy pub R S n f = false := by
  unfold vfy fChk; rw [h, if_neg (by simp)]
theorem vfy_at (a b : Nat) (S : Int) (n : Nat) (f : Nat → Nat) (ha : Gp.El a) (hb : Gp.El b) (s : Nat) (hS : S = (s : Int)) (hs : s < 2305843009213688669) :
    vfy (a : Int) (b : Int) S n f = (Gp.pw 4611686018427377339 4 s == Gp.mu 4611686018427377339 b (Gp.pw 4611686018427377339 a (chOf (b : Int) (a : Int) n f))) := by
  subst hS
  unfold vfy Gp.gChk fChk
  rw [ha.is, hb.is, Gp.isSc_of hs, if_pos (by rfl)]
  rfl
/-- of what Sign returns exactly its own S is accepted. -/
theorem vfy_sg (x n : Nat) (f : Nat → Nat) (j : Int) : vfy (Gp.pw 4611686018427377339 4 x : Nat) (sgR x n f) j n f = (j == (sgS x n f : Int)) := by
  cases hj : Gp.isSc j with
  | false =>
    rw [vfy_noS _ _ _ _ _ hj, Eq.comm, beq_eq_false_iff_ne]
    intro e
    rw [e, Gp.isSc_of (sgS_lt x n f)] at hj
    exact absurd hj (by decide)
  | true =>
    obtain ⟨s, e, hs⟩ := Gp.isSc_nat hj
    rw [vfy_at _ _ j n f (Gp.el_four.pw x) (sgR_el x n f) s e hs, e, beq_cast, Bool.eq_iff_iff, beq_iff_eq, beq_iff_eq]
    exact sg_only x n f s hs
theorem vfy_own (x n : Nat) (f : Nat → Nat) : vfy (Gp.pw 4611686018427377339 4 x : Nat) (sgR x n f) (sgS x n f) n f = true := by
  rw [vfy_sg]; exact beq_self_eq_true _
theorem bytes_nil (w : World) : Bytes w none 0 0 (fun _ => 0) := ⟨fun h => absurd h (by decide), fun i h => absurd h (Nat.not_lt_zero i), Nat.le_refl _, fun _ => rfl⟩
theorem pw_one4 : Gp.pw 4611686018427377339 4 1 = 4 := by decide +kernel
set_option maxRecDepth 100000 in
set_option maxHeartbeats 4000000 in
theorem sane5 (w : World) (hT : Tabs w) :
    Calls Tryd.prog 48 #[] w fun e w' => e = .returned (.bool true) ∧ Below w.heap.size w w' := by
  have X1 := Lib.hid (fun w => pub_ok 1 (by decide) (by decide) w)
  rw [pw_one4] at X1
  have X2 := Lib.hid (fun w => pub_no 0 (.inl (by decide)) w)
  have X3 := Lib.hid (fun w => pub_no 2305843009213688669 (.inr (by decide)) w)
  have X4 := Lib.hid (fun w => sign_no 0 (.inl (by decide)) none 0 0 w)
  have HT := Lib.hid hT
  clear hT
  go_enter Tryd.func48, Tryd.ntmps48
  go_wp2_with fail
  refine (X1.out _).mono ?_
  rintro e w1 ⟨rfl, hB⟩
  go_wp2_with fail
  refine (X2.out _).mono ?_
  rintro e w2 ⟨rfl, hb1⟩
  replace hB := hB.trans (hb1.mono hB.size)
  clear hb1
  go_wp2_with fail
  refine (X3.out _).mono ?_
  rintro e w3 ⟨rfl, hb1⟩
  replace hB := hB.trans (hb1.mono hB.size)
  clear hb1
  go_wp2_with fail
  refine (X4.out _).mono ?_
  rintro e w4 ⟨rfl, hb1⟩
  replace hB := hB.trans (hb1.mono hB.size)
  clear hb1 X1 X2 X3 X4
  unfold sgV
  have X5 := Lib.hid (fun (W : World) (hb : Below w.heap.size w W) => sign_ok 1 (by decide) (by decide) (some ⟨W.heap.size, 0, none⟩) 1 1 (fun _ => 7) (W.alloc (.cells #[.int .u8 7] 5)) (HT.out.below (hb.alloc hb.size _)) (byte_new W 7 (by decide)) (by decide))
  have v0 := vfy_own 1 1 (fun _ => 7)
  rw [pw_one4] at v0
  have r0 : (0 : Int) < (sgR 1 1 (fun _ => 7) : Nat) := by have := (sgR_el 1 1 (fun _ => 7)).1; omega
  have HV0 := Lib.hid v0
  clear v0
  unfold sgV at X5
  obtain ⟨R, hR⟩ : ∃ R, R = sgR 1 1 (fun _ => 7) := ⟨_, rfl⟩
  obtain ⟨S, hS⟩ : ∃ S, S = sgS 1 1 (fun _ => 7) := ⟨_, rfl⟩
  rw [← hR, ← hS] at X5 HV0
  rw [← hR] at r0
  clear hR hS
  replace hB := hB.alloc hB.size (.cells #[.int .i64 0, .int .i64 0] 61)
  go_upto_region 5 with fail
  generalize w4.alloc (.cells #[.int .i64 0, .int .i64 0] 61) = w5 at *
  have X6 := X5.out w5 hB
  have hA := hB.alloc hB.size (.cells #[.int .u8 7] 5)
  go_wp2_with fail
  refine X6.mono ?_
  rintro e w6 ⟨rfl, hb1⟩
  replace hB := hA.trans (hb1.mono hA.size)
  clear hb1 X6 hA
  go_upto_region 6 with fail
  have hV := VG.first w6 R S
  replace hB := hB.alloc hB.size (.cells #[.int .i64 R, .int .i64 S] 61)
  generalize w6.alloc (.cells #[.int .i64 R, .int .i64 S] 61) = w7 at *
  have X6 := X5.out w7 hB
  have hA := hB.alloc hB.size (.cells #[.int .u8 7] 5)
  replace hV := hV.next ((Below.refl _ _).alloc (Nat.le_refl _) (.cells #[.int .u8 7] 5)) (Nat.le_refl _)
  go_wp2_with fail
  refine X6.mono ?_
  rintro e w8 ⟨rfl, hb1⟩
  replace hB := hA.trans (hb1.mono hA.size)
  replace hV := hV.next hb1 (Nat.le_refl _)
  clear hb1 X6 hA
  go_upto_region 7 with fail
  have hV2 := VG.first w8 R S
  replace hB := hB.alloc hB.size (.cells #[.int .i64 R, .int .i64 S] 61)
  replace hV := hV.next ((Below.refl _ _).alloc (Nat.le_refl _) (.cells #[.int .i64 R, .int .i64 S] 61)) (Nat.le_refl _)
  have Y1 := Lib.hid (fun (W : World) (hb : Below w.heap.size w W) => verify_any 0 0 0 none 0 0 (fun _ => 0) W (HT.out.below hb) (bytes_nil W) (by decide))
  have Y2 := Lib.hid (fun (W : World) (hb : Below w.heap.size w W) => verify_any 4 4 2305843009213688669 none 0 0 (fun _ => 0) W (HT.out.below hb) (bytes_nil W) (by decide))
  have Y3 := Lib.hid (fun (W : World) (hb : Below w.heap.size w W) => verify_any 4 R S (some ⟨W.heap.size, 0, none⟩) 1 1 (fun _ => 7) (W.alloc (.cells #[.int .u8 7] 5)) (HT.out.below (hb.alloc hb.size _)) (byte_new W 7 (by decide)) (by decide))
  rw [vfy_no1 0 0 0 0 _ Gp.no0] at Y1
  rw [vfy_noS 4 4 2305843009213688669 0 _ (by decide)] at Y2
  rw [show vfy 4 R S 1 (fun _ => 7) = true from HV0.out] at Y3
  generalize w8.alloc (.cells #[.int .i64 R, .int .i64 S] 61) = w9 at *
  have hv := hV.all
  have hv2 := hV2.all
  clear X5 HV0
  go_wp2_with fail
  refine (Y1.out _ hB).mono ?_
  rintro e w10 ⟨rfl, hb1⟩
  replace hB := hB.trans (hb1.mono hB.size)
  replace hV := hV.next hb1 (Nat.le_refl _)
  clear hb1 hv hv2 hV2 Y1
  go_wp2_with fail
  refine (Y2.out _ hB).mono ?_
  rintro e w11 ⟨rfl, hb1⟩
  replace hB := hB.trans (hb1.mono hB.size)
  replace hV := hV.next hb1 (Nat.le_refl _)
  have hv := hV.all
  have hA := hB.alloc hB.size (.cells #[.int .u8 7] 5)
  have hv2 := (hV.next ((Below.refl _ _).alloc (Nat.le_refl _) (.cells #[.int .u8 7] 5)) (Nat.le_refl _)).all
  have Y4 := Lib.hid (Y3.out _ hB)
  clear hb1 Y2 Y3
  go_wp2_with fail
  refine Y4.out.mono ?_
  rintro e w12 ⟨rfl, hb1⟩
  replace hA := hA.trans (hb1.mono hA.size)
  clear hb1 hv hv2 hV Y4
  go_wp2_with fail
  go_ret
  exact ⟨rfl, hA⟩
end Go.Proofs.YtelikpkekloffaaDoor
