/- group.rest, Scalar, Point of this program, walked. -/
import Derived.Test.YtelikpkekloffaaDoorDigD
import Derived.Test.YtelikpkekloffaaDoorGroup
namespace Go.Proofs.YtelikpkekloffaaDoor
open Go.RowKit

/-- the number that j bytes are, modulo m. -/
def rst (m : Nat) (g : Nat → Nat) : Nat → Nat
  | 0 => 0
  | j + 1 => (rst m g j * 256 + g j) % m
theorem rst_lt {m : Nat} (hm : 0 < m) (g : Nat → Nat) : ∀ j, rst m g j < m
  | 0 => hm
  | _ + 1 => Nat.mod_lt _ hm
theorem rst_congr {m : Nat} {g h : Nat → Nat} {k : Nat} (e : ∀ i, i < k → g i = h i) : ∀ j, j ≤ k → rst m g j = rst m h j
  | 0, _ => rfl
  | j + 1, hj => by rw [rst, rst, rst_congr e j (by omega), e j (by omega)]

theorem orByte (n b : Nat) (hb : b < 256) : bits .or .u64 (IntKind.u64.wrap ((n : Int) * 256)) (b : Int) = ((n * 256 % 18446744073709551616 + b : Nat) : Int) := by
  have e : IntKind.u64.wrap ((n : Int) * 256) = ((n * 256 % 18446744073709551616 : Nat) : Int) := by rw [IntKind.wrap_u64]; omega
  rw [e]
  have h := bits_or_u64_nat (n * 256 % 18446744073709551616) b (by omega) (by omega)
  rw [or_parts32 (k := 8) (by omega) (by omega)] at h
  exact h

set_option maxHeartbeats 4000000 in
set_option maxRecDepth 100000 in
theorem rest1_any (n m b Bn Bm : Nat) (hn : n < m) (hm : m < 9223372036854775808) (hb : b < 256) (w : World) (cn : w.cell? ⟨Bn, 0, none⟩ = some (.int .u64 n)) (cm : w.cell? ⟨Bm, 0, none⟩ = some (.int .u64 m)) (fn : w.frozen? ⟨Bn, 0, none⟩ = false) :
    Calls Tryd.prog 99 #[.int .u8 b, .pointer (some ⟨Bn, 0, none⟩), .pointer (some ⟨Bm, 0, none⟩)] w fun e w' => e = .returned (.tuple #[]) ∧ ∃ k, w' = (w.drewN k).setCell ⟨Bn, 0, none⟩ (.int .u64 ((n * 256 + b) % m : Nat)) := by
  have e1 := orByte n b hb
  obtain ⟨lo, hlo⟩ : ∃ lo, lo = n * 256 % 18446744073709551616 + b := ⟨_, rfl⟩
  obtain ⟨hi, hhi⟩ : ∃ hi, hi = n / 72057594037927936 := ⟨_, rfl⟩
  have e2 : (n : Int) / 72057594037927936 = (hi : Int) := by rw [hhi]; omega
  have e3 : (n * 256 + b) % m = (hi * 18446744073709551616 + lo) % m := by rw [show n * 256 + b = hi * 18446744073709551616 + lo by omega]
  have hd := div64_any hi lo m (by omega) (by omega) (by omega) w
  rw [← e3] at hd
  rw [← hlo] at e1
  generalize (n * 256 + b) % m = r at *
  have HD := Lib.hid hd
  have b1 : (b : Int) < 256 := by omega
  clear hn hm hb hd e3 hlo hhi
  go_enter Tryd.func99, Tryd.ntmps99
  go_wp2_with fail
  refine HD.out.mono ?_
  rintro e w1 ⟨q, rfl, k, hk⟩
  have c1 : w1.cell? ⟨Bn, 0, none⟩ = some (.int .u64 n) := by rw [hk]; exact cn
  have c2 : w1.frozen? ⟨Bn, 0, none⟩ = false := by rw [hk]; exact fn
  have HKK := Lib.hid hk
  clear hk cn cm fn e1 e2
  go_wp2_with fail
  go_end0
  exact ⟨rfl, k, by rw [HKK.out]⟩

theorem below_drewN {B : Nat} {a w : World} (h : Below B a w) (k : Nat) : Below B a (w.drewN k) := h.trans ⟨rfl, rfl, rfl, Nat.le_refl _, fun _ _ => rfl⟩
theorem under_u64 : Tryd.prog.underlying 75 = some (.int .u64) := by kernel_rfl
theorem loadU64 {w : World} {B : Nat} {v : Value} (h : w.cell? ⟨B, 0, none⟩ = some v) : (loadVar 75 ⟨B, 0, none⟩).run Tryd.prog w = .ok v w := by
  simp [loadVar, isAgg, run_underlying under_u64, h]
theorem index32 (g : Nat → Nat) (W : World) (i : Nat) (h : i < 32) : Sem.run Tryd.prog (Instr.index 44 (.agg (c32 g).toArray) (.int .i64 (i : Int))) W = .ok (.int .u8 (g i : Int)) W := by
  obtain ⟨t, hi, hzz⟩ := Option.map_eq_some_iff.1 info8
  simp only [Prod.mk.injEq] at hzz
  obtain ⟨hz, hs, hb⟩ := hzz
  have h2 := c32_get g i h
  simp [Instr.index, asIntOf, run_underlying under32, sizeOf, typeInfo, hi, hs, part, isAgg, run_underlying under_byte, h2]
  intro h3
  omega

set_option maxHeartbeats 4000000 in
set_option maxRecDepth 100000 in
/-- group.rest: the number of a digest modulo m. -/
theorem rest_any (g : Nat → Nat) (hg : ∀ i, i < 32 → g i < 256) (m : Nat) (h0 : 0 < m) (hm : m < 9223372036854775808) (w : World) :
    Calls Tryd.prog 66 #[d32 g, .int .u64 m] w fun e w' => e = .returned (.int .u64 (rst m g 32)) ∧ Below w.heap.size w w' := by
  have HG := Lib.hid hg
  have HM := Lib.hid (show _ ∧ _ from ⟨h0, hm⟩)
  clear hg h0 hm
  unfold d32
  go_enter Tryd.func66, Tryd.ntmps66
  go_upto_region 2 with fail
  obtain ⟨W3, hW3⟩ : ∃ W3, W3 = ((w.alloc (.cells (c32 g).toArray 44)).alloc (.cells #[.int .u64 m] 75)).alloc (.cells #[.int .u64 0] 75) := ⟨_, rfl⟩
  rw [← hW3]
  have hB : Below w.heap.size w W3 := by rw [hW3]; exact (((Below.refl _ _).alloc (Nat.le_refl _) _).alloc (by rw [alloc_size]; omega) _).alloc (by rw [alloc_size, alloc_size]; omega) _
  have hR : Row W3 w.heap.size 0 32 .u8 (fun i => (g i : Int)) := by
    rw [hW3]
    refine Row.alloc (Row.alloc (row_new w (c32 g).toArray _ 32 .u8 _ fun i hi => ?_) (by rw [alloc_size]; omega) _) (by rw [alloc_size, alloc_size]; omega) _
    rw [List.getElem?_toArray]
    exact c32_get g i hi
  have hS : W3.heap.size = w.heap.size + 3 := by rw [hW3, alloc_size, alloc_size, alloc_size]
  have hr1 : Row W3 (w.heap.size + 1) 0 1 .u64 (fun _ => (m : Int)) := by
    have h := row_list (w.alloc (.cells (c32 g).toArray 44)) [(m : Int)] 75 1 .u64 (fun _ => (m : Int)) (fun i hi => by obtain rfl : i = 0 := (by omega); rfl)
    have h2 := h.alloc (Nat.lt_of_lt_of_eq (Nat.lt_succ_self _) (alloc_size _ _).symm) (.cells #[.int .u64 0] 75)
    rw [alloc_size] at h2
    rw [hW3]
    exact h2
  have hr2 : Row W3 (w.heap.size + 1 + 1) 0 1 .u64 (fun _ => 0) := by
    have h := row_list ((w.alloc (.cells (c32 g).toArray 44)).alloc (.cells #[.int .u64 m] 75)) [0] 75 1 .u64 (fun _ => 0) (fun i hi => by obtain rfl : i = 0 := (by omega); rfl)
    rw [alloc_size, alloc_size] at h
    rw [hW3]
    exact h
  clear hW3
  generalize hBd : w.heap.size = Bd at *
  generalize hBm : Bd + 1 = Bm at *
  generalize hBn : Bm + 1 = Bn at *
  have HRG := Lib.hid (range32 hR.reads)
  have HR1 := Lib.hid hr1
  have HR2 := Lib.hid hr2
  have HB := Lib.hid hB
  have HX := Lib.hid (show Bd + 1 = Bm ∧ Bm + 1 = Bn ∧ W3.heap.size = Bd + 3 from ⟨hBm, hBn, hS⟩)
  clear hR hr1 hr2 hB hS hBm hBn
  go_wp2_with (refine wpList_load_mid rfl 44 (.tmp 2) rfl Bd 0 rfl (c32 g) (.array 32 5) HRG.out under32 rfl (by rw [c32_length]; exact info32) ?_)
  go_loopg [10] 32 (fun k x wr => ∃ i : Nat, x = .int .i64 i ∧ i + k = 32 ∧ Hid (Below Bd W3 wr) ∧ Hid (Row wr Bm 0 1 .u64 (fun _ => (m : Int))) ∧ Hid (Row wr Bn 0 1 .u64 (fun _ => (rst m g i : Int))))
  case atStart => exact ⟨0, rfl, rfl, Lib.hid (Below.refl _ _), HR1, HR2⟩
  case round =>
    obtain ⟨i, rfl, hi, hB, h1, h2⟩ := hrel
    by_cases h : i < 32
    · have t1 : decide ((i : Int) < 32) = true := by rw [decide_eq_true_eq]; omega
      have t1' : decide (i < 32) = true := by rw [decide_eq_true_eq]; omega
      have b1 : (i : Int) < 32 := by omega
      have hix := index32 g wr i h
      have hc := rest1_any (rst m g i) m (g i) Bn Bm (rst_lt HM.out.1 g i) HM.out.2 (HG.out i h) wr (h2.out.cell 0 (by decide)) (h1.out.cell 0 (by decide)) (h2.out.free 0 (by decide))
      have HC := Lib.hid hc
      have HI := Lib.hid hi
      have H32 := Lib.hid h
      clear hc hi h
      go_wp2_with fail
      refine HC.out.mono ?_
      rintro e w1 ⟨rfl, k, hk⟩
      have hB' := Lib.hid (show Below Bd W3 w1 by rw [hk]; exact (below_drewN hB.out k).setCell (p := ⟨Bn, 0, none⟩) (by have := HX.out; show Bd ≤ Bn; omega) _)
      have h1' := Lib.hid (show Row w1 Bm 0 1 .u64 (fun _ => (m : Int)) by rw [hk]; exact (h1.out.drewN k).other (a := ⟨Bn, 0, none⟩) (by have := HX.out; show Bn ≠ Bm; omega) _)
      have h2' := Lib.hid (show Row w1 Bn 0 1 .u64 (fun _ => (rst m g (i + 1) : Int)) by
        rw [hk]
        have h3 := (h2.out.drewN k).set (i := 0) (by decide) ((rst m g i * 256 + g i) % m : Nat)
        exact h3.congr fun j hj => by obtain rfl : j = 0 := (by omega); rw [if_pos rfl]; rfl)
      clear hk hB h1 h2
      go_wp2_with fail
      go_roundg (32 - (i + 1))
      case rel => exact ⟨i + 1, by go_num, by have := H32.out; omega, hB', h1', h2'⟩
      case measure => have := HI.out; have := H32.out; omega
    · obtain rfl : i = 32 := by omega
      have t1 : decide (((32 : Nat) : Int) < 32) = false := by decide
      clear hi h
      obtain ⟨r, hr⟩ : ∃ r, r = rst m g 32 := ⟨_, rfl⟩
      have c0 : wr.cell? ⟨Bn, 0, none⟩ = some (.int .u64 r) := by rw [hr]; exact h2.out.cell 0 (by decide)
      have z0 : wr.frozen? ⟨Bn, 0, none⟩ = false := h2.out.free 0 (by decide)
      have HRR := Lib.hid hr
      clear hr
      go_wp2_with fail
      have c1 : (wr.setCell ⟨Bn, 0, none⟩ (.int .u64 r)).cell? ⟨Bn, 0, none⟩ = some (.int .u64 r) := World.cell?_setCell_same' _ _ _ (by rw [c0]; rfl)
      refine bodyPost_ret (v := .int .u64 r) (results_cell rfl rfl (loadU64 c1)) rfl ⟨by rw [HRR.out], ?_⟩
      rw [hBd]
      exact (HB.out.trans hB.out).setCell (p := ⟨Bn, 0, none⟩) (by have := HX.out; show Bd ≤ Bn; omega) _

/-- the scalar, the element that bytes determine. -/
def scOf (tag : ByteArray) (n : Nat) (f : Nat → Nat) : Nat := 1 + rst 2305843009213688668 (Sha.tagged tag.size (sb tag) n f) 32
def ptX (tag : ByteArray) (n : Nat) (f : Nat → Nat) : Nat := 2 + rst 4611686018427377336 (Sha.tagged tag.size (sb tag) n f) 32
def ptOf (tag : ByteArray) (n : Nat) (f : Nat → Nat) : Nat := Gp.mu 4611686018427377339 (ptX tag n f) (ptX tag n f)
theorem scOf_congr {tag : ByteArray} {n : Nat} {f g : Nat → Nat} (h : ∀ i, i < n → f i = g i) : scOf tag n f = scOf tag n g := by
  unfold scOf; rw [rst_congr (k := 32) (fun i _ => Sha.tagged_congr (fun _ _ => rfl) h i) 32 (Nat.le_refl _)]
theorem ptOf_congr {tag : ByteArray} {n : Nat} {f g : Nat → Nat} (h : ∀ i, i < n → f i = g i) : ptOf tag n f = ptOf tag n g := by
  unfold ptOf ptX; rw [rst_congr (k := 32) (fun i _ => Sha.tagged_congr (fun _ _ => rfl) h i) 32 (Nat.le_refl _)]
theorem scOf_pos (tag : ByteArray) (n : Nat) (f : Nat → Nat) : 1 ≤ scOf tag n f := Nat.le_add_right _ _
theorem scOf_lt (tag : ByteArray) (n : Nat) (f : Nat → Nat) : scOf tag n f < 2305843009213688669 := by
  unfold scOf
  have := rst_lt (m := 2305843009213688668) (by decide) (Sha.tagged tag.size (sb tag) n f) 32
  omega
theorem ptX_lt (tag : ByteArray) (n : Nat) (f : Nat → Nat) : 2 ≤ ptX tag n f ∧ ptX tag n f < 4611686018427377338 := by
  unfold ptX
  have := rst_lt (m := 4611686018427377336) (by decide) (Sha.tagged tag.size (sb tag) n f) 32
  omega

set_option maxHeartbeats 4000000 in
theorem scalar_any (tag : ByteArray) (p : Option Addr) (n cap : Nat) (f : Nat → Nat) (w : World) (hT : Tabs w) (hb : Bytes w p n cap f) (hn : 32 + n ≤ 140737488355328) (htag : tag.size ≤ 140737488355328) (hcap : cap ≤ 9223372036854775807) :
    Calls Tryd.prog 30 #[.string tag, .slice p n cap] w fun e w' => e = .returned (.int .i64 (scOf tag n f : Nat)) ∧ Below w.heap.size w w' := by
  have HC := Lib.hid (tagged_any tag p n cap f w hT hb hn htag hcap)
  obtain ⟨r, hr⟩ : ∃ r, r = rst 2305843009213688668 (Sha.tagged tag.size (sb tag) n f) 32 := ⟨_, rfl⟩
  have hrl : r < 2305843009213688668 := by rw [hr]; exact rst_lt (by decide) _ _
  have b1 : (r : Int) < 2305843009213688668 := by omega
  have HR := Lib.hid hr
  clear hrl hr hT hb hn htag hcap
  go_enter Tryd.func30, Tryd.ntmps30
  go_wp2_with fail
  refine HC.out.mono ?_
  rintro e w1 ⟨rfl, hb1⟩
  have HB1 := Lib.hid hb1
  have HD := Lib.hid (rest_any (Sha.tagged tag.size (sb tag) n f) (fun i _ => Sha.tagged_lt _ _ _ _ i) 2305843009213688668 (by decide) (by decide) w1)
  clear hb1 HC
  obtain ⟨v, hv⟩ : ∃ v, v = d32 (Sha.tagged tag.size (sb tag) n f) := ⟨_, rfl⟩
  rw [← hv] at HD ⊢
  clear hv
  go_wp2_with fail
  refine HD.out.mono ?_
  rintro e w2 ⟨rfl, hb2⟩
  have HB2 := Lib.hid hb2
  rw [← HR.out]
  clear hb2 HD
  go_wp2_with fail
  go_ret
  exact ⟨by unfold scOf; rw [← HR.out]; push_cast; rfl, HB1.out.trans (HB2.out.mono HB1.out.size)⟩

set_option maxHeartbeats 4000000 in
theorem point_any (tag : ByteArray) (p : Option Addr) (n cap : Nat) (f : Nat → Nat) (w : World) (hT : Tabs w) (hb : Bytes w p n cap f) (hn : 32 + n ≤ 140737488355328) (htag : tag.size ≤ 140737488355328) (hcap : cap ≤ 9223372036854775807) :
    Calls Tryd.prog 32 #[.string tag, .slice p n cap] w fun e w' => e = .returned (.int .i64 (ptOf tag n f : Nat)) ∧ Below w.heap.size w w' := by
  have HC := Lib.hid (tagged_any tag p n cap f w hT hb hn htag hcap)
  obtain ⟨r, hr⟩ : ∃ r, r = rst 4611686018427377336 (Sha.tagged tag.size (sb tag) n f) 32 := ⟨_, rfl⟩
  have hrl : r < 4611686018427377336 := by rw [hr]; exact rst_lt (by decide) _ _
  have b1 : (r : Int) < 4611686018427377336 := by omega
  have HR := Lib.hid hr
  have HRL := Lib.hid hrl
  clear hrl hr hT hb hn htag hcap
  go_enter Tryd.func32, Tryd.ntmps32
  go_wp2_with fail
  refine HC.out.mono ?_
  rintro e w1 ⟨rfl, hb1⟩
  have HB1 := Lib.hid hb1
  have HD := Lib.hid (rest_any (Sha.tagged tag.size (sb tag) n f) (fun i _ => Sha.tagged_lt _ _ _ _ i) 4611686018427377336 (by decide) (by decide) w1)
  clear hb1 HC
  obtain ⟨v, hv⟩ : ∃ v, v = d32 (Sha.tagged tag.size (sb tag) n f) := ⟨_, rfl⟩
  rw [← hv] at HD ⊢
  clear hv
  go_wp2_with fail
  refine HD.out.mono ?_
  rintro e w2 ⟨rfl, hb2⟩
  have HB2 := Lib.hid hb2
  rw [← HR.out]
  clear hb2 HD
  have ht := times_any (2 + r) (2 + r) (by have := HRL.out; omega) (by have := HRL.out; omega) w2
  rw [show ((2 + r : Nat) : Int) = 2 + (r : Int) by push_cast; rfl] at ht
  have HTM := Lib.hid ht
  clear ht
  have hlt : Gp.mu 4611686018427377339 (2 + r) (2 + r) < 4611686018427377339 := Nat.mod_lt _ (by decide)
  have hv : Gp.mu 4611686018427377339 (2 + r) (2 + r) = ptOf tag n f := by unfold ptOf ptX; rw [← HR.out]
  rw [hv] at hlt HTM
  obtain ⟨z, hz⟩ : ∃ z, z = ptOf tag n f := ⟨_, rfl⟩
  rw [← hz] at hlt HTM
  have HZ := Lib.hid hz
  have b2 : (z : Int) < 4611686018427377339 := by omega
  clear hlt hv hz
  go_wp2_with fail
  refine HTM.out.mono ?_
  rintro e w3 ⟨rfl, k, hk⟩
  have HB3 := Lib.hid (show Below w.heap.size w w3 by rw [hk]; exact below_drewN (HB1.out.trans (HB2.out.mono HB1.out.size)) k)
  clear hk
  go_wp2_with fail
  go_ret
  exact ⟨by rw [HZ.out]; rfl, HB3.out⟩
end Go.Proofs.YtelikpkekloffaaDoor
