/- chartroomlaw10.side of this program, walked: a valid side. -/
import Derived.Test.YtelikpkekloffaaDoorHold
namespace Go.Proofs.YtelikpkekloffaaDoor
open Go.RowKit

def sdR (n : Int) : Nat := 1 + (n % 2).toNat
def sdC (n : Int) : Nat := uN n % 1000000
def sdX (n : Int) : Nat := 1 + uN n % 2305843009213688668
theorem sdR_ok (n : Int) : sdR n = 1 ∨ sdR n = 2 := by unfold sdR; omega
theorem sdC_lt (n : Int) : sdC n < 1000000 := Nat.mod_lt _ (by decide)
theorem sdX_ok (n : Int) : 1 ≤ sdX n ∧ sdX n < 2305843009213688669 := by
  unfold sdX
  have := Nat.mod_lt (uN n) (show 0 < 2305843009213688668 by decide)
  omega
theorem i64_and1 (n : Int) : bits .and .i64 n 1 = n % 2 := by
  have h1 : (BitVec.ofInt 64 1).toNat = 2 ^ 1 - 1 := by decide
  have key : (BitVec.ofInt 64 n &&& BitVec.ofInt 64 1).toNat = (n % ((2 ^ 64 : Nat) : Int)).toNat % 2 ^ 1 := by
    rw [BitVec.toNat_and, BitVec.toNat_ofInt, h1, Nat.and_two_pow_sub_one_eq_mod]
  show IntKind.i64.wrap ((BitVec.ofInt 64 n &&& BitVec.ofInt 64 1).toNat : Nat) = n % 2
  rw [key, IntKind.wrap_i64]
  omega

set_option maxHeartbeats 4000000 in
set_option maxRecDepth 100000 in
theorem side_any (a b d : Int) (w : World) : Calls Tryd.prog 20 #[.int .i64 a, .int .i64 b, .int .i64 d] w fun e w' =>
    e = .returned (.agg #[.int .i64 (sdR a : Nat), .int .i64 (sdC b : Nat), .int .i64 (sdX d : Nat)]) ∧ Below w.heap.size w w' := by
  obtain ⟨p, hp⟩ : ∃ p, p = (a % 2).toNat := ⟨_, rfl⟩
  obtain ⟨q, hq⟩ : ∃ q, q = uN b % 1000000 := ⟨_, rfl⟩
  obtain ⟨s, hs⟩ : ∃ s, s = uN d % 2305843009213688668 := ⟨_, rfl⟩
  have e1 : bits .and .i64 a 1 = (p : Int) := by rw [i64_and1]; omega
  have e2 := uN_wrap b
  have e3 := uN_wrap d
  have b1 : (p : Int) ≤ 1 := by omega
  have b2 : (q : Int) < 1000000 := by have := Nat.mod_lt (uN b) (show 0 < 1000000 by decide); omega
  have b3 : (s : Int) < 2305843009213688668 := by have := Nat.mod_lt (uN d) (show 0 < 2305843009213688668 by decide); omega
  have e4 : (uN b : Int) % 1000000 = (q : Int) := by omega
  have e5 : (uN d : Int) % 2305843009213688668 = (s : Int) := by omega
  have e6 : (uN b : Int).tmod 1000000 = (q : Int) := by rw [Int.tmod_eq_emod_of_nonneg (by omega)]; exact e4
  have e7 : (uN d : Int).tmod 2305843009213688668 = (s : Int) := by rw [Int.tmod_eq_emod_of_nonneg (by omega)]; exact e5
  have E := Lib.hid (show sdR a = 1 + p ∧ sdC b = q ∧ sdX d = 1 + s from ⟨by rw [hp]; rfl, by rw [hq]; rfl, by rw [hs]; rfl⟩)
  generalize uN b = ub at *
  generalize uN d = ud at *
  clear hp hq hs
  go_enter Tryd.func20, Tryd.ntmps20
  go_wp2_with fail
  have hS := ((Hold.nil w).addSide (1 + (p : Int)) q (1 + (s : Int))).side (.head _)
  have hrg : World.rangeAt (w.alloc (.cells #[.int .i64 (1 + (p : Int)), .int .i64 q, .int .i64 (1 + (s : Int))] 24)) w.heap.size 0 [.int .i64 (1 + (p : Int)), .int .i64 q, .int .i64 (1 + (s : Int))] := fun j v hv => by
    match j, hv with
    | 0, hv => cases hv; exact hS.1
    | 1, hv => cases hv; exact hS.2.1
    | 2, hv => cases hv; exact hS.2.2
  refine bodyPost_ret (v := .agg #[.int .i64 (1 + (p : Int)), .int .i64 q, .int .i64 (1 + (s : Int))]) (results_cell rfl rfl (run_loadVar_mid _ w.heap.size 0 24 [.int .i64 (1 + (p : Int)), .int .i64 q, .int .i64 (1 + (s : Int))] _ hrg Tryd.underlying24 rfl (by kernel_rfl))) rfl ⟨?_, (Below.refl _ _).alloc (Nat.le_refl _) _⟩
  rw [E.out.1, E.out.2.1, E.out.2.2]
  push_cast
  rfl
end Go.Proofs.YtelikpkekloffaaDoor
