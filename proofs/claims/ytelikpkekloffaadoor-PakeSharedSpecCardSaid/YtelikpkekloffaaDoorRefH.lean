/- The reference's Rest, Scalar, Point, walked. -/
import Derived.Test.YtelikpkekloffaaDoorRefT
import Derived.Test.YtelikpkekloffaaDoorRefG
import Derived.Test.YtelikpkekloffaaDoorHash
namespace Go.Proofs.YtelikpkekloffaaDoor
open Go.RowKit

theorem rst_ref (m : Nat) (g : Nat → Nat) (j : Nat) : rst m g (j + 1) = (Gp.mu m 256 (rst m g j) + g j) % m := by
  show (rst m g j * 256 + g j) % m = _
  unfold Gp.mu
  rw [Nat.mod_add_mod, Nat.mul_comm]

set_option maxRecDepth 100000 in
set_option maxHeartbeats 4000000 in
theorem rrest_any (g : Nat → Nat) (hg : ∀ i, i < 32 → g i < 256) (m : Nat) (h0 : 256 < m) (hm : m ≤ 4611686018427387904) (w : World) :
    Calls Tryd.prog 67 #[.agg (c32 g).toArray, .int .i64 m] w fun e w' => e = .returned (.int .i64 (rst m g 32 : Nat)) ∧ Below w.heap.size w w' := by
  have HG := Lib.hid hg
  have HM := Lib.hid (show _ ∧ _ from ⟨h0, hm⟩)
  have b1 : (m : Int) ≤ 4611686018427387904 := by omega
  have b2 : (256 : Int) < (m : Int) := by omega
  clear hg h0 hm
  go_enter Tryd.func67, Tryd.ntmps67
  go_upto_region 1 with fail
  have hrow : Row (w.alloc (.cells (c32 g).toArray 44)) w.heap.size 0 32 .u8 (fun i => (g i : Int)) := row_new w _ _ 32 .u8 _ fun i hi => by rw [List.getElem?_toArray]; exact c32_get g i hi
  have hB0 := (Below.refl w.heap.size w).alloc (Nat.le_refl _) (.cells (c32 g).toArray 44)
  generalize w.alloc (.cells (c32 g).toArray 44) = w1 at *
  generalize (c32 g).toArray = arr at *
  have HR := Lib.hid hrow
  have HB0 := Lib.hid hB0
  clear hrow hB0
  go_wp2_with fail
  go_loopg [5, 6] 32 (fun n x y wr => ∃ i r : Nat, i + n = 32 ∧ x = .int .i64 r ∧ y = .int .i64 i ∧ Hid (r = rst m g i) ∧ Hid (∃ q, wr = w1.drewN q))
  case atStart => exact ⟨0, 0, rfl, rfl, rfl, Lib.hid rfl, Lib.hid ⟨0, rfl⟩⟩
  case round =>
    obtain ⟨i, r, hi, rfl, rfl, hr, hq⟩ := hrel
    obtain ⟨nw, hq⟩ := hq.out
    subst hq
    by_cases h : i < 32
    · have t1 : decide ((i : Int) < 32) = true := by rw [decide_eq_true_eq]; omega
      have r0 : (i : Int) < 32 := by omega
      have hrm : r < m := by rw [hr.out]; exact rst_lt (by have := HM.out; omega) g i
      have hc : (w1.drewN nw).cell? ⟨w.heap.size, i, none⟩ = some (.int .u8 (g i : Int)) := by have := HR.out.cell i h; rw [Nat.zero_add] at this; exact this
      have HP := Lib.hid (fun w => product_any 256 r m HM.out.2 HM.out.1 (by have := HM.out; omega) w)
      have hgl := HG.out i h
      obtain ⟨u, hu⟩ : ∃ u, u = Gp.mu m 256 r := ⟨_, rfl⟩
      rw [← hu] at HP
      have hul : u < m := by rw [hu]; exact Gp.mu_lt (by have := HM.out; omega)
      obtain ⟨r2, hr2⟩ : ∃ r2, r2 = (u + g i) % m := ⟨_, rfl⟩
      have hn : r2 = rst m g (i + 1) := by rw [hr2, hu, rst_ref, hr.out]
      generalize g i = gi at *
      have e1 : ((u : Int) + (gi : Int)).tmod (m : Int) = (r2 : Int) := by
        rw [hr2, Int.tmod_eq_emod_of_nonneg (by omega)]; push_cast; rfl
      have e2 : ((u : Int) + (gi : Int)) % (m : Int) = (r2 : Int) := by rw [hr2]; push_cast; rfl
      have b3 : (u : Int) < (m : Int) := by omega
      have b4 : (u : Int) < 4611686018427387904 := by omega
      have b5 : (gi : Int) < 256 := by omega
      have HN := Lib.hid hn
      have HI := Lib.hid hi
      have H32 := Lib.hid h
      clear hu hul hr2 hn hgl hrm hi h
      generalize hw2 : w1.drewN nw = w2 at *
      have HW2 := Lib.hid hw2
      clear hw2 hq
      go_wp2_with fail
      go_quiet (first | (go_at_call 69; with_reducible refine Calls.quiet_of_same (HP.out _)))
      generalize hw3 : w2.drewN nq = w3 at *
      have HW3 := Lib.hid hw3
      clear hw3
      go_wp2_with fail
      go_roundg (32 - (i + 1))
      case rel => exact ⟨i + 1, r2, by have := H32.out; omega, rfl, by go_num, HN, Lib.hid ⟨nw + nq, by rw [← HW3.out, ← HW2.out, World.drewN_drewN]⟩⟩
      case measure => have := HI.out; have := H32.out; omega
    · obtain rfl : i = 32 := by omega
      have t1 : decide (((32 : Nat) : Int) < 32) = false := by decide
      clear hi h
      go_wp2_with fail
      go_ret
      exact ⟨by rw [hr.out]; rfl, below_drewN HB0.out nw⟩

set_option maxHeartbeats 4000000 in
theorem rscalar_any (tag : ByteArray) (p : Option Addr) (n cap : Nat) (f : Nat → Nat) (w : World) (hb : Bytes w p n cap f) (hn : n ≤ 4000) (htag : tag.size ≤ 4096) :
    Calls Tryd.prog 31 #[.string tag, .slice p n cap] w fun e w' => e = .returned (.int .i64 (scOf tag n f : Nat)) ∧ Below w.heap.size w w' := by
  have HC := Lib.hid (rtagged_any tag p n cap f w hb hn htag)
  obtain ⟨r, hr⟩ : ∃ r, r = rst 2305843009213688668 (Sha.tagged tag.size (sb tag) n f) 32 := ⟨_, rfl⟩
  have hrl : r < 2305843009213688668 := by rw [hr]; exact rst_lt (by decide) _ _
  have b1 : (r : Int) < 2305843009213688668 := by omega
  have HR := Lib.hid hr
  clear hrl hr hb hn htag
  go_enter Tryd.func31, Tryd.ntmps31
  go_wp2_with fail
  refine HC.out.mono ?_
  rintro e w1 ⟨rfl, hb1⟩
  have HB1 := Lib.hid hb1
  have HD := Lib.hid (rrest_any (Sha.tagged tag.size (sb tag) n f) (fun i _ => Sha.tagged_lt _ _ _ _ i) 2305843009213688668 (by decide) (by decide) w1)
  clear hb1 HC
  have HD2 : Hid (Calls Tryd.prog 67 #[d32 (Sha.tagged tag.size (sb tag) n f), .int .i64 2305843009213688668] w1 fun e w' => e = .returned (.int .i64 (rst 2305843009213688668 (Sha.tagged tag.size (sb tag) n f) 32 : Nat)) ∧ Below w1.heap.size w1 w') := HD
  obtain ⟨v, hv⟩ : ∃ v, v = d32 (Sha.tagged tag.size (sb tag) n f) := ⟨_, rfl⟩
  rw [← hv, ← HR.out] at HD2
  rw [← hv]
  clear hv HD
  go_wp2_with fail
  refine HD2.out.mono ?_
  rintro e w2 ⟨rfl, hb2⟩
  have HB2 := Lib.hid hb2
  clear hb2 HD2
  go_wp2_with fail
  go_ret
  exact ⟨by unfold scOf; rw [← HR.out]; push_cast; rfl, HB1.out.trans (HB2.out.mono HB1.out.size)⟩

set_option maxHeartbeats 4000000 in
theorem rpoint_any (tag : ByteArray) (p : Option Addr) (n cap : Nat) (f : Nat → Nat) (w : World) (hb : Bytes w p n cap f) (hn : n ≤ 4000) (htag : tag.size ≤ 4096) :
    Calls Tryd.prog 33 #[.string tag, .slice p n cap] w fun e w' => e = .returned (.int .i64 (ptOf tag n f : Nat)) ∧ Below w.heap.size w w' := by
  have HC := Lib.hid (rtagged_any tag p n cap f w hb hn htag)
  obtain ⟨r, hr⟩ : ∃ r, r = rst 4611686018427377336 (Sha.tagged tag.size (sb tag) n f) 32 := ⟨_, rfl⟩
  have hrl : r < 4611686018427377336 := by rw [hr]; exact rst_lt (by decide) _ _
  have b1 : (r : Int) < 4611686018427377336 := by omega
  obtain ⟨x, hx⟩ : ∃ x, x = 2 + r := ⟨_, rfl⟩
  have e1 : (2 : Int) + (r : Int) = (x : Int) := by omega
  have HP := Lib.hid (fun w => product_P x x (by omega) (by omega) w)
  have hpt : ptOf tag n f = Gp.mu 4611686018427377339 x x := by unfold ptOf ptX; rw [hx, hr]
  have HPT := Lib.hid hpt
  have HR := Lib.hid hr
  clear hrl hr hb hn htag hx hpt
  go_enter Tryd.func33, Tryd.ntmps33
  go_wp2_with fail
  refine HC.out.mono ?_
  rintro e w1 ⟨rfl, hb1⟩
  have HB1 := Lib.hid hb1
  have HD := Lib.hid (rrest_any (Sha.tagged tag.size (sb tag) n f) (fun i _ => Sha.tagged_lt _ _ _ _ i) 4611686018427377336 (by decide) (by decide) w1)
  clear hb1 HC
  have HD2 : Hid (Calls Tryd.prog 67 #[d32 (Sha.tagged tag.size (sb tag) n f), .int .i64 4611686018427377336] w1 fun e w' => e = .returned (.int .i64 (rst 4611686018427377336 (Sha.tagged tag.size (sb tag) n f) 32 : Nat)) ∧ Below w1.heap.size w1 w') := HD
  obtain ⟨v, hv⟩ : ∃ v, v = d32 (Sha.tagged tag.size (sb tag) n f) := ⟨_, rfl⟩
  rw [← hv, ← HR.out] at HD2
  rw [← hv]
  clear hv HD
  go_wp2_with fail
  refine HD2.out.mono ?_
  rintro e w2 ⟨rfl, hb2⟩
  have HB2 := Lib.hid hb2
  clear hb2 HD2
  go_wp2_with fail
  refine (HP.out _).mono ?_
  rintro e w3 ⟨rfl, rfl⟩
  go_wp2_with fail
  go_ret
  exact ⟨by rw [HPT.out]; rfl, HB1.out.trans (HB2.out.mono HB1.out.size)⟩
end Go.Proofs.YtelikpkekloffaaDoor
