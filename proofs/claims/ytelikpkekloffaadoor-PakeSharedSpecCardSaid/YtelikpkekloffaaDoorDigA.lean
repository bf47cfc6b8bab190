/- digest.word, bits.RotateLeft32, digest.rotated, digest.put of this program, walked. -/
import Derived.Test.YtelikpkekloffaaDoorRow
import Derived.Test.YtelikpkekloffaaDoorSha
import Derived.Deep.LoopGhost
import Derived.Deep.QuietTactic
import Derived.BigQuiet
import Derived.Deep.CutBlock
namespace Go.Proofs.YtelikpkekloffaaDoor
open Go.RowKit

theorem wrap_u32_nat (a : Nat) (h : a < 4294967296) : IntKind.u32.wrap (a : Int) = (a : Int) := by
  simp only [IntKind.wrap, IntKind.bits, IntKind.signed]; simp; omega
theorem wrap_u32_mod (a : Int) : IntKind.u32.wrap a = a % 4294967296 := by simp [IntKind.wrap, IntKind.bits, IntKind.signed]
theorem ofInt32 (a : Nat) (h : a < 4294967296) : (BitVec.ofInt 32 (a : Int)).toNat = a := by
  rw [BitVec.ofInt_natCast, BitVec.toNat_ofNat]; exact Nat.mod_eq_of_lt (by omega)
theorem bits_or32 (a b : Nat) (ha : a < 4294967296) (hb : b < 4294967296) : bits .or .u32 (a : Int) (b : Int) = ((a ||| b : Nat) : Int) := by
  show IntKind.u32.wrap ((BitVec.ofInt 32 (a : Int) ||| BitVec.ofInt 32 (b : Int)).toNat : Int) = _
  rw [BitVec.toNat_or, ofInt32 a ha, ofInt32 b hb, wrap_u32_nat _ (Sha.or_lt ha hb)]
theorem bits_xor32 (a b : Nat) (ha : a < 4294967296) (hb : b < 4294967296) : bits .xor .u32 (a : Int) (b : Int) = ((a ^^^ b : Nat) : Int) := by
  show IntKind.u32.wrap ((BitVec.ofInt 32 (a : Int) ^^^ BitVec.ofInt 32 (b : Int)).toNat : Int) = _
  rw [BitVec.toNat_xor, ofInt32 a ha, ofInt32 b hb, wrap_u32_nat _ (Sha.xor_lt ha hb)]
theorem bits_and32 (a b : Nat) (ha : a < 4294967296) (hb : b < 4294967296) : bits .and .u32 (a : Int) (b : Int) = ((a &&& b : Nat) : Int) := by
  show IntKind.u32.wrap ((BitVec.ofInt 32 (a : Int) &&& BitVec.ofInt 32 (b : Int)).toNat : Int) = _
  rw [BitVec.toNat_and, ofInt32 a ha, ofInt32 b hb, wrap_u32_nat _ (Sha.and_lt hb)]
theorem or_parts32 {x y k : Nat} (hx : x % 2 ^ k = 0) (hy : y < 2 ^ k) : x ||| y = x + y := by
  have e : x = 2 ^ k * (x / 2 ^ k) := by have := Nat.div_add_mod x (2 ^ k); omega
  rw [e, ← Nat.two_pow_add_eq_or_of_lt hy]

/-- the first j bytes as a number. -/
def bacc (f : Nat → Nat) : Nat → Nat
  | 0 => 0
  | j + 1 => bacc f j * 256 + f j
theorem bacc_lt {f : Nat → Nat} (hf : ∀ i, i < 4 → f i < 256) : ∀ j, j < 4 → bacc f j < 16777216
  | 0, _ => by simp [bacc]
  | 1, _ => by have := hf 0 (by decide); simp only [bacc]; omega
  | 2, _ => by have := hf 0 (by decide); have := hf 1 (by decide); simp only [bacc]; omega
  | 3, _ => by have := hf 0 (by decide); have := hf 1 (by decide); have := hf 2 (by decide); simp only [bacc]; omega
theorem bacc_four (f : Nat → Nat) : bacc f 4 = Sha.be4 f 0 := by simp [bacc, Sha.be4]

set_option maxRecDepth 100000 in
set_option maxHeartbeats 1000000 in
/-- four bytes as a word. -/
theorem word_any (B off cap n : Nat) (f : Nat → Nat) (hf : ∀ i, i < 4 → f i < 256) (hn : 4 ≤ n) (hcap : n ≤ cap) (w : World) (hc : Reads w B off 4 .u8 (fun i => (f i : Int))) :
    Calls Tryd.prog 115 #[.slice (some ⟨B, off, none⟩) n cap] w fun e w' => e = .returned (.int .u32 (Sha.be4 f 0 : Nat)) ∧ w' = w := by
  have HF := Lib.hid hf
  have HC := Lib.hid hc
  have b1 : (4 : Int) ≤ n := by omega
  have b2 : (n : Int) ≤ cap := by omega
  have b3 : (4 : Int) ≤ cap := by omega
  clear hf hc
  go_enter Tryd.func115, Tryd.ntmps115
  go_wp2_with fail
  go_loopg [2, 8] 4 (fun m x y wr => wr = w ∧ ∃ j v : Nat, j + m = 4 ∧ x = .int .u32 v ∧ y = .int .i64 j ∧ Hid (v = bacc f j))
  case atStart => exact ⟨rfl, 0, 0, rfl, rfl, rfl, Lib.hid rfl⟩
  case round =>
    obtain ⟨rfl, j, v, hj, rfl, rfl, hv⟩ := hrel
    by_cases h : j < 4
    · have hc : wr.cell? ⟨B, off + j, none⟩ = some (.int .u8 (f j)) := HC.out j h
      have t1 : decide ((j : Int) < 4) = true := by rw [decide_eq_true_eq]; omega
      have hfj := HF.out j h
      have hvl : v < 16777216 := by rw [hv.out]; exact bacc_lt HF.out j h
      have hv' : v * 256 + f j = bacc f (j + 1) := by rw [hv.out]; rfl
      have HV := Lib.hid hv'
      have e1 : bits .or .u32 ((v : Int) * 256) (f j : Int) = ((v * 256 + f j : Nat) : Int) := by
        have h2 := bits_or32 (v * 256) (f j) (by omega) (by omega)
        rw [or_parts32 (k := 8) (by omega) hfj] at h2
        rw [← h2]; push_cast; rfl
      have b4 : (v : Int) < 16777216 := by omega
      have b5 : (f j : Int) < 256 := by omega
      generalize v * 256 + f j = v2 at *
      generalize f j = fj at *
      have HJ := Lib.hid hj
      clear hfj hvl hv' hj
      go_wp2_with fail
      go_roundg (4 - (j + 1))
      case rel => exact ⟨rfl, j + 1, v2, by omega, rfl, by go_num, HV⟩
      case measure => have := HJ.out; omega
    · obtain rfl : j = 4 := by omega
      have e1 := hv.out
      rw [bacc_four] at e1
      have E1 := Lib.hid e1
      clear hj h e1
      go_wp2_with fail
      go_ret
      exact ⟨by rw [← E1.out]; rfl, rfl⟩

theorem mask31 (n : Nat) (h1 : 1 ≤ n) (h2 : n ≤ 31) : bits .and .u64 (IntKind.u64.wrap (-(n : Int))) 31 = ((32 - n : Nat) : Int) := by
  have e : IntKind.u64.wrap (-(n : Int)) = ((18446744073709551616 - n : Nat) : Int) := by rw [IntKind.wrap_u64]; omega
  rw [e]
  have h := bits_and_u64_nat (18446744073709551616 - n) 31 (by omega) (by omega)
  rw [show (18446744073709551616 - n) &&& 31 = (18446744073709551616 - n) % 32 from Nat.and_two_pow_sub_one_eq_mod _ 5] at h
  have e2 : (18446744073709551616 - n) % 32 = 32 - n := by omega
  rw [e2] at h
  exact h

set_option maxHeartbeats 1000000 in
theorem rotl_any (x n : Nat) (h1 : 1 ≤ n) (h2 : n ≤ 31) (hx : x < 4294967296) (w : World) :
    Calls Tryd.prog 116 #[.int .u32 x, .int .i64 (-(n : Int))] w fun e w' => e = .returned (.int .u32 (Sha.rr n x : Nat)) ∧ w' = w := by
  have e1 := mask31 n h1 h2
  obtain ⟨s, hs⟩ : ∃ s, s = 32 - n := ⟨_, rfl⟩
  rw [← hs] at e1
  have e2 : (32 : Int) - (s : Int) = (n : Int) := by omega
  have e3 : IntKind.u32.wrap ((x : Int) * 2 ^ s) = ((x * 2 ^ s % 4294967296 : Nat) : Int) := by
    rw [show (x : Int) * 2 ^ s = ((x * 2 ^ s : Nat) : Int) by push_cast; rfl, wrap_u32_mod]
    generalize x * 2 ^ s = X
    omega
  have e4 : (x : Int) / 2 ^ n = ((x / 2 ^ n : Nat) : Int) := by push_cast; rfl
  have e5 : bits .or .u32 ((x * 2 ^ s % 4294967296 : Nat) : Int) ((x / 2 ^ n : Nat) : Int) = ((Sha.rr n x : Nat) : Int) := by
    rw [bits_or32 _ _ (Nat.mod_lt _ (by decide)) (Nat.lt_of_le_of_lt (Nat.div_le_self _ _) hx)]
    unfold Sha.rr; rw [hs]
  generalize Sha.rr n x = r at *
  generalize x * 2 ^ s % 4294967296 = u at *
  generalize x / 2 ^ n = v at *
  have b1 : (s : Int) ≤ 31 := by omega
  have b2 : (n : Int) ≤ 31 := by omega
  have b3 : (1 : Int) ≤ n := by omega
  clear h1 h2 hx hs
  go_enter Tryd.func116, Tryd.ntmps116
  go_wp2_with fail
  go_ret
  exact ⟨rfl, rfl⟩

theorem rot7 (x : Nat) (hx : x < 4294967296) (w : World) : Calls Tryd.prog 116 #[.int .u32 x, .int .i64 (-7)] w fun e w' => e = .returned (.int .u32 (Sha.rr 7 x : Nat)) ∧ w' = w := rotl_any x 7 (by decide) (by decide) hx w
theorem rot18 (x : Nat) (hx : x < 4294967296) (w : World) : Calls Tryd.prog 116 #[.int .u32 x, .int .i64 (-18)] w fun e w' => e = .returned (.int .u32 (Sha.rr 18 x : Nat)) ∧ w' = w := rotl_any x 18 (by decide) (by decide) hx w
theorem rot17 (x : Nat) (hx : x < 4294967296) (w : World) : Calls Tryd.prog 116 #[.int .u32 x, .int .i64 (-17)] w fun e w' => e = .returned (.int .u32 (Sha.rr 17 x : Nat)) ∧ w' = w := rotl_any x 17 (by decide) (by decide) hx w
theorem rot19 (x : Nat) (hx : x < 4294967296) (w : World) : Calls Tryd.prog 116 #[.int .u32 x, .int .i64 (-19)] w fun e w' => e = .returned (.int .u32 (Sha.rr 19 x : Nat)) ∧ w' = w := rotl_any x 19 (by decide) (by decide) hx w

theorem xor3 (a b c : Nat) (ha : a < 4294967296) (hb : b < 4294967296) (hc : c < 4294967296) : bits .xor .u32 (bits .xor .u32 (a : Int) (b : Int)) (c : Int) = (((a ^^^ b) ^^^ c : Nat) : Int) := by
  rw [bits_xor32 a b ha hb, bits_xor32 _ c (Sha.xor_lt ha hb) hc]

set_option maxHeartbeats 1000000 in
theorem rotated_e (x : Nat) (hx : x < 4294967296) (w : World) :
    Calls Tryd.prog 117 #[.int .u32 x, .int .i64 6, .int .i64 11, .int .i64 25] w fun e w' => e = .returned (.int .u32 (Sha.b1 x : Nat)) ∧ w' = w := by
  have c1 : Calls Tryd.prog 116 #[.int .u32 x, .int .i64 (-6)] w fun e w' => e = .returned (.int .u32 (Sha.rr 6 x : Nat)) ∧ w' = w := rotl_any x 6 (by decide) (by decide) hx w
  have c2 : Calls Tryd.prog 116 #[.int .u32 x, .int .i64 (-11)] w fun e w' => e = .returned (.int .u32 (Sha.rr 11 x : Nat)) ∧ w' = w := rotl_any x 11 (by decide) (by decide) hx w
  have c3 : Calls Tryd.prog 116 #[.int .u32 x, .int .i64 (-25)] w fun e w' => e = .returned (.int .u32 (Sha.rr 25 x : Nat)) ∧ w' = w := rotl_any x 25 (by decide) (by decide) hx w
  have e1 := xor3 (Sha.rr 6 x) (Sha.rr 11 x) (Sha.rr 25 x) (Sha.rr_lt _ _ hx) (Sha.rr_lt _ _ hx) (Sha.rr_lt _ _ hx)
  have e2 : (Sha.rr 6 x ^^^ Sha.rr 11 x) ^^^ Sha.rr 25 x = Sha.b1 x := rfl
  rw [e2] at e1
  generalize Sha.rr 6 x = r1 at *
  generalize Sha.rr 11 x = r2 at *
  generalize Sha.rr 25 x = r3 at *
  generalize Sha.b1 x = r at *
  have C1 := Lib.hid c1
  have C2 := Lib.hid c2
  have C3 := Lib.hid c3
  have E1 := Lib.hid e1
  clear c1 c2 c3 e1 e2 hx
  go_enter Tryd.func117, Tryd.ntmps117
  go_wp2_with fail
  refine C1.out.mono ?_
  rintro e w1 ⟨rfl, rfl⟩
  go_wp2_with fail
  refine C2.out.mono ?_
  rintro e w1 ⟨rfl, rfl⟩
  go_wp2_with fail
  refine C3.out.mono ?_
  rintro e w1 ⟨rfl, rfl⟩
  go_wp2_with fail
  go_ret
  exact ⟨by rw [← E1.out]; rfl, rfl⟩

set_option maxHeartbeats 1000000 in
theorem rotated_a (x : Nat) (hx : x < 4294967296) (w : World) :
    Calls Tryd.prog 117 #[.int .u32 x, .int .i64 2, .int .i64 13, .int .i64 22] w fun e w' => e = .returned (.int .u32 (Sha.b0 x : Nat)) ∧ w' = w := by
  have c1 : Calls Tryd.prog 116 #[.int .u32 x, .int .i64 (-2)] w fun e w' => e = .returned (.int .u32 (Sha.rr 2 x : Nat)) ∧ w' = w := rotl_any x 2 (by decide) (by decide) hx w
  have c2 : Calls Tryd.prog 116 #[.int .u32 x, .int .i64 (-13)] w fun e w' => e = .returned (.int .u32 (Sha.rr 13 x : Nat)) ∧ w' = w := rotl_any x 13 (by decide) (by decide) hx w
  have c3 : Calls Tryd.prog 116 #[.int .u32 x, .int .i64 (-22)] w fun e w' => e = .returned (.int .u32 (Sha.rr 22 x : Nat)) ∧ w' = w := rotl_any x 22 (by decide) (by decide) hx w
  have e1 := xor3 (Sha.rr 2 x) (Sha.rr 13 x) (Sha.rr 22 x) (Sha.rr_lt _ _ hx) (Sha.rr_lt _ _ hx) (Sha.rr_lt _ _ hx)
  have e2 : (Sha.rr 2 x ^^^ Sha.rr 13 x) ^^^ Sha.rr 22 x = Sha.b0 x := rfl
  rw [e2] at e1
  generalize Sha.rr 2 x = r1 at *
  generalize Sha.rr 13 x = r2 at *
  generalize Sha.rr 22 x = r3 at *
  generalize Sha.b0 x = r at *
  have C1 := Lib.hid c1
  have C2 := Lib.hid c2
  have C3 := Lib.hid c3
  have E1 := Lib.hid e1
  clear c1 c2 c3 e1 e2 hx
  go_enter Tryd.func117, Tryd.ntmps117
  go_wp2_with fail
  refine C1.out.mono ?_
  rintro e w1 ⟨rfl, rfl⟩
  go_wp2_with fail
  refine C2.out.mono ?_
  rintro e w1 ⟨rfl, rfl⟩
  go_wp2_with fail
  refine C3.out.mono ?_
  rintro e w1 ⟨rfl, rfl⟩
  go_wp2_with fail
  go_ret
  exact ⟨by rw [← E1.out]; rfl, rfl⟩

set_option maxRecDepth 100000 in
set_option maxHeartbeats 1000000 in
/-- a number into L bytes, the most significant one first. -/
theorem put_any (B off L cap n : Nat) (f0 : Nat → Int) (hL : L ≤ 8) (hn : n < 18446744073709551616) (w : World) (hr : Row w B off L .u8 f0) :
    Calls Tryd.prog 105 #[.slice (some ⟨B, off, none⟩) L cap, .int .u64 n] w fun e w' => e = .returned (.tuple #[]) ∧
      Fr (At B off (off + L)) w w' ∧ Row w' B off L .u8 (fun i => ((n / 2 ^ (8 * (L - 1 - i)) % 256 : Nat) : Int)) := by
  have HR := Lib.hid hr
  have HN := Lib.hid hn
  have hl : (L : Int) ≤ 8 := by omega
  clear hr hn hL
  go_enter Tryd.func105, Tryd.ntmps105
  go_wp2_with fail
  go_loopg [7] L (fun m x wr => ∃ i : Nat, i + m = L ∧ x = .int .i64 i ∧ Hid (Fr (At B off (off + L)) w wr) ∧ Hid (Row wr B off L .u8 (fun j => if L - i ≤ j then ((n / 2 ^ (8 * (L - 1 - j)) % 256 : Nat) : Int) else f0 j)))
  case atStart => exact ⟨0, Nat.zero_add _, rfl, Lib.hid (Fr.refl _ _), Lib.hid (HR.out.congr fun i hi => by rw [if_neg (by omega)])⟩
  case round =>
    obtain ⟨i, hi, rfl, hF, hR⟩ := hrel
    by_cases h : i < L
    · have t1 : decide ((i : Int) < (L : Int)) = true := by rw [decide_eq_true_eq]; omega
      obtain ⟨d, hd⟩ : ∃ d, d = L - 1 - i := ⟨_, rfl⟩
      have e1 : (L : Int) - 1 - (i : Int) = (d : Int) := by omega
      have hdl : d < L := by omega
      have hc := hR.out.cell d hdl
      have hfz := hR.out.free d hdl
      obtain ⟨old, ho⟩ : ∃ old, wr.cell? ⟨B, off + d, none⟩ = some (.int .u8 old) := ⟨_, hc⟩
      clear hc
      have b1 : (d : Int) < L := by omega
      have b2 : (i : Int) ≤ 7 := by omega
      obtain ⟨q, hq⟩ : ∃ q, q = n / 2 ^ (8 * i) := ⟨_, rfl⟩
      have e2 : (n : Int) / 2 ^ (8 * i) = (q : Int) := by rw [hq]; push_cast; rfl
      obtain ⟨r, hr⟩ : ∃ r, r = q % 256 := ⟨_, rfl⟩
      have e3 : IntKind.u8.wrap (q : Int) = (r : Int) := by
        simp only [IntKind.wrap, IntKind.bits, IntKind.signed]; simp; omega
      have HQ := Lib.hid hq
      have HRR := Lib.hid hr
      clear hq hr
      have HD := Lib.hid hd
      have HI := Lib.hid hi
      clear hd hi
      go_wp2_with fail
      go_roundg (L - (i + 1))
      case rel =>
        have hF' := hF.out.setCell B (off + d) (.int .u8 (r : Int)) (fun _ => ⟨rfl, by omega, by omega⟩)
        have hR' := hR.out.set hdl (r : Int)
        refine ⟨i + 1, by omega, by go_num, Lib.hid hF', Lib.hid (hR'.congr fun j hj => ?_)⟩
        have hdd := HD.out
        by_cases e : j = d
        · subst e
          have hii : L - 1 - j = i := by omega
          rw [if_pos rfl, if_pos (by omega), hii, HRR.out, HQ.out]
        · rw [if_neg e]
          by_cases e' : L - i ≤ j
          · rw [if_pos e', if_pos (by omega)]
          · rw [if_neg e', if_neg (by omega)]
      case measure => have := HI.out; omega
    · obtain rfl : i = L := by omega
      have t1 : decide ((i : Int) < (i : Int)) = false := by rw [decide_eq_false_iff_not]; omega
      clear hi h
      go_wp2_with fail
      go_end0
      refine ⟨rfl, hF.out, hR.out.congr fun j hj => ?_⟩
      rw [if_pos (by omega)]
end Go.Proofs.YtelikpkekloffaaDoor
