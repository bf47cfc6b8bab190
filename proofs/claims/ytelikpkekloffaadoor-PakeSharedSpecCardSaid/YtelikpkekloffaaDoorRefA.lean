/- The reference's hash function, its small functions, walked: ror, word, numbers. -/
import Derived.Test.YtelikpkekloffaaDoorDigB
namespace Go.Proofs.YtelikpkekloffaaDoor
open Go.RowKit

set_option maxHeartbeats 1000000 in
theorem ror_any (x n : Nat) (h1 : 1 ≤ n) (h2 : n ≤ 31) (hx : x < 4294967296) (w : World) :
    Calls Tryd.prog 119 #[.int .u32 x, .int .i64 (n : Int)] w fun e w' => e = .returned (.int .u32 (Sha.rr n x : Nat)) ∧ w' = w.drew := by
  obtain ⟨s, hs⟩ : ∃ s, s = 32 - n := ⟨_, rfl⟩
  have e2 : (32 : Int) - (n : Int) = (s : Int) := by omega
  have e3 : IntKind.u32.wrap ((x : Int) * 2 ^ s) = ((x * 2 ^ s % 4294967296 : Nat) : Int) := by
    rw [show (x : Int) * 2 ^ s = ((x * 2 ^ s : Nat) : Int) by push_cast; rfl, wrap_u32_mod]
    generalize x * 2 ^ s = X
    omega
  have e4 : (x : Int) / 2 ^ n = ((x / 2 ^ n : Nat) : Int) := by push_cast; rfl
  have e5 : bits .or .u32 ((x / 2 ^ n : Nat) : Int) ((x * 2 ^ s % 4294967296 : Nat) : Int) = ((Sha.rr n x : Nat) : Int) := by
    rw [bits_or32 _ _ (Nat.lt_of_le_of_lt (Nat.div_le_self _ _) hx) (Nat.mod_lt _ (by decide)), hs, Sha.rr_ref]
  generalize Sha.rr n x = r at *
  generalize x * 2 ^ s % 4294967296 = u at *
  generalize x / 2 ^ n = v at *
  have b1 : (s : Int) ≤ 31 := by omega
  have b2 : (n : Int) ≤ 31 := by omega
  have b3 : (1 : Int) ≤ n := by omega
  have b4 : (1 : Int) ≤ s := by omega
  have e6 : IntKind.i64.wrap (s : Int) = (s : Int) := by rw [IntKind.wrap_i64]; omega
  clear h1 h2 hx hs
  go_enter Tryd.func119, Tryd.ntmps119
  go_upto_region 1 with fail
  refine wp_region_still_lit (by kernel_rfl) (by kernel_rfl) ?_
  repeat still_step
  refine wpStill_nil ?_
  change Exit.then _ _ Exit.normal _ w.drew
  go_wp2_with fail
  go_ret
  exact ⟨rfl, rfl⟩
theorem ror_lit (x n : Nat) (k : Int) (hk : k = (n : Int)) (h1 : 1 ≤ n) (h2 : n ≤ 31) (hx : x < 4294967296) (w : World) :
    Calls Tryd.prog 119 #[.int .u32 x, .int .i64 k] w fun e w' => e = .returned (.int .u32 (Sha.rr n x : Nat)) ∧ w' = w.drew := by
  rw [hk]; exact ror_any x n h1 h2 hx w

theorem wrap_mul32 (x k : Nat) (h : x * k < 4294967296) : IntKind.u32.wrap ((x : Int) * (k : Int)) = ((x * k : Nat) : Int) := by
  rw [← Int.natCast_mul]; exact wrap_u32_nat _ h
theorem be4_bits (a b c d : Nat) (ha : a < 256) (hb : b < 256) (hc : c < 256) (hd : d < 256) :
    ∃ y0 y1 y2 : Nat, IntKind.u32.wrap ((a : Int) * 16777216) = y0 ∧ IntKind.u32.wrap ((b : Int) * 65536) = y1 ∧ IntKind.u32.wrap ((c : Int) * 256) = y2 ∧
      bits .or .u32 (bits .or .u32 (bits .or .u32 (y0 : Int) (y1 : Int)) (y2 : Int)) (d : Int) = ((((a * 256 + b) * 256 + c) * 256 + d : Nat) : Int) := by
  refine ⟨a * 16777216, b * 65536, c * 256, wrap_mul32 a 16777216 (by omega), wrap_mul32 b 65536 (by omega), wrap_mul32 c 256 (by omega), ?_⟩
  have e1 : a * 16777216 ||| b * 65536 = a * 16777216 + b * 65536 := or_parts32 (k := 24) (by omega) (by omega)
  have e2 : (a * 16777216 + b * 65536) ||| c * 256 = a * 16777216 + b * 65536 + c * 256 := or_parts32 (k := 16) (by omega) (by omega)
  have e3 : (a * 16777216 + b * 65536 + c * 256) ||| d = a * 16777216 + b * 65536 + c * 256 + d := or_parts32 (k := 8) (by omega) (by omega)
  rw [bits_or32 _ _ (by omega) (by omega), e1, bits_or32 _ _ (by omega) (by omega), e2, bits_or32 _ _ (by omega) (by omega), e3]
  exact congrArg _ (by omega)

set_option maxRecDepth 100000 in
set_option maxHeartbeats 1000000 in
/-- four bytes as a word. -/
theorem rword_any (B off cap : Nat) (f : Nat → Nat) (hf : ∀ i, i < 4 → f i < 256) (w : World) (hc : Reads w B off 4 .u8 (fun i => (f i : Int))) :
    Calls Tryd.prog 118 #[.slice (some ⟨B, off, none⟩) 4 cap] w fun e w' => e = .returned (.int .u32 (Sha.be4 f 0 : Nat)) ∧ w' = w.drew := by
  have c0 : w.cell? ⟨B, off, none⟩ = some (.int .u8 (f 0 : Int)) := hc 0 (by decide)
  have c1 : w.cell? ⟨B, off + 1, none⟩ = some (.int .u8 (f 1 : Int)) := hc 1 (by decide)
  have c2 : w.cell? ⟨B, off + 2, none⟩ = some (.int .u8 (f 2 : Int)) := hc 2 (by decide)
  have c3 : w.cell? ⟨B, off + 3, none⟩ = some (.int .u8 (f 3 : Int)) := hc 3 (by decide)
  have l0 := hf 0 (by decide)
  have l1 := hf 1 (by decide)
  have l2 := hf 2 (by decide)
  have l3 := hf 3 (by decide)
  obtain ⟨y0, y1, y2, k0, k1, k2, e⟩ := be4_bits (f 0) (f 1) (f 2) (f 3) l0 l1 l2 l3
  have e' : ((f 0 * 256 + f 1) * 256 + f 2) * 256 + f 3 = Sha.be4 f 0 := rfl
  rw [e'] at e
  generalize Sha.be4 f 0 = r at *
  generalize f 0 = x0 at *
  generalize f 1 = x1 at *
  generalize f 2 = x2 at *
  generalize f 3 = x3 at *
  have m0 := wrap_u32_nat x0 (by omega)
  have m1 := wrap_u32_nat x1 (by omega)
  have m2 := wrap_u32_nat x2 (by omega)
  have m3 := wrap_u32_nat x3 (by omega)
  clear hc hf l0 l1 l2 l3 e'
  go_enter Tryd.func118, Tryd.ntmps118
  go_upto_region 1 with fail
  have D0 : ∀ d, ({ w with drawn := d } : World).cell? ⟨B, off, none⟩ = _ := fun _ => c0
  have D1 : ∀ d, ({ w with drawn := d } : World).cell? ⟨B, off + 1, none⟩ = _ := fun _ => c1
  have D2 : ∀ d, ({ w with drawn := d } : World).cell? ⟨B, off + 2, none⟩ = _ := fun _ => c2
  have D3 : ∀ d, ({ w with drawn := d } : World).cell? ⟨B, off + 3, none⟩ = _ := fun _ => c3
  refine wp_region_still_lit (by kernel_rfl) (by kernel_rfl) ?_
  repeat still_step
  refine wpStill_nil ?_
  change Exit.then _ _ Exit.normal _ w.drew
  go_wp2_with fail
  go_ret
  exact ⟨rfl, rfl⟩
end Go.Proofs.YtelikpkekloffaaDoor
