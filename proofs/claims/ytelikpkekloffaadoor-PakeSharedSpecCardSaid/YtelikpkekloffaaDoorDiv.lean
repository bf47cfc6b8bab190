/- math/bits.Div64 of this program, walked: where hi is less than y it returns some quotient and the remainder of hi * 2^64 + lo by y; the world only draws. -/
import Derived.Test.YtelikpkekloffaaDoorBits
import Derived.Test.YtelikpkekloffaaDoorLen64
import Derived.Test.YtelikpkekloffaaDoorDivM
import Derived.Lib.Hide
import Derived.Deep.QuietTactic
import Derived.BigQuiet
import Derived.Deep.CutBlock
import Derived.Deep.CutRange
import Derived.Deep.LoopGhost
namespace Go.Proofs.YtelikpkekloffaaDoor
open Go.RowKit

theorem div64_round {u d a b q r z T Y : Nat} (hr : r + q * a = u) (hub : u < a * 4294967296 + b) (hbb : b < 4294967296) (hd : d < 4294967296) (hT : T = Dv.dig u d Y) (hY : Y = a * 4294967296 + b)
    (hz : z = q * b) (hTq : T ≤ q) (hq2 : q ≤ 4294967297) :
    ((q : Int) < 4294967296 ∧ (z : Int) ≤ 4294967296 * (r : Int) + d ∧ (q : Int) = (T : Int)) ∨
    ((4294967296 : Int) ≤ q ∧ (4294967296 : Int) ≤ (r : Int) + a ∧ (q : Int) - 1 = (T : Int)) ∨
    ((q : Int) < 4294967296 ∧ 4294967296 * (r : Int) + d < (z : Int) ∧ (4294967296 : Int) ≤ (r : Int) + a ∧ (q : Int) - 1 = (T : Int)) ∨
    ((4294967296 : Int) ≤ q ∧ (r : Int) + a < 4294967296 ∧ ∃ q' r' : Nat, (q : Int) - 1 = (q' : Int) ∧ (r : Int) + a = (r' : Int) ∧ r' + q' * a = u ∧ T ≤ q') ∨
    ((q : Int) < 4294967296 ∧ 4294967296 * (r : Int) + d < (z : Int) ∧ (r : Int) + a < 4294967296 ∧ ∃ q' r' : Nat, (q : Int) - 1 = (q' : Int) ∧ (r : Int) + a = (r' : Int) ∧ r' + q' * a = u ∧ T ≤ q') := by
  subst hT hY hz
  have yes := Dv.test_yes hr hub hd
  have no := Dv.test_no (d := d) hr hub
  have hr' : 1 ≤ q → (r + a) + (q - 1) * a = u := by
    intro h1
    have e : q = (q - 1) + 1 := by omega
    rw [e, Nat.add_mul, Nat.one_mul] at hr
    omega
  have big : 1 ≤ q → 4294967296 ≤ r + a → q - 1 ≤ Dv.dig u d (a * 4294967296 + b) := fun h1 h3 => Dv.big_rest (hr' h1) hub hbb (by omega) h3
  generalize Dv.dig u d (a * 4294967296 + b) = T at *
  generalize q * b = z at *
  by_cases hc1 : 4294967296 ≤ q
  · have hTl := yes (.inl hc1)
    by_cases h4 : 4294967296 ≤ r + a
    · have := big (by omega) h4
      exact .inr (.inl ⟨by omega, by omega, by omega⟩)
    · exact .inr (.inr (.inr (.inl ⟨by omega, by omega, q - 1, r + a, by omega, by omega, hr' (by omega), by omega⟩)))
  · by_cases hc2 : 4294967296 * r + d < z
    · have hTl := yes (.inr hc2)
      by_cases h4 : 4294967296 ≤ r + a
      · have := big (by omega) h4
        exact .inr (.inr (.inl ⟨by omega, by omega, by omega, by omega⟩))
      · exact .inr (.inr (.inr (.inr ⟨by omega, by omega, by omega, q - 1, r + a, by omega, by omega, hr' (by omega), by omega⟩)))
    · have := no (by omega)
      exact .inl ⟨by omega, by omega, by omega⟩

set_option maxRecDepth 100000 in
set_option maxHeartbeats 1000000 in
theorem div64_core (hi lo y s Y a b u L d1 d0 : Nat) (h0 : 0 < hi) (h1 : hi < y) (_hl : lo < 18446744073709551616) (hy : y < 18446744073709551616) (HS : Hid ((64 - (Lib.bitLen (y : Int).toNat : Int)) = (s : Int))) (hs64 : s ≤ 64)
    (hYb : Y < 18446744073709551616) (hY : IntKind.u64.wrap ((y : Int) * 2 ^ s) = (Y : Int)) (haz : 2147483648 ≤ a) (hab : a < 4294967296) (ha : (Y : Int) / 4294967296 = (a : Int))
    (hbb : b < 4294967296) (hb : bits .and .u64 (Y : Int) 4294967295 = (b : Int)) (HYab : Hid (Y = a * 4294967296 + b))
    (hub : u < Y) (hu : bits .or .u64 (IntKind.u64.wrap ((hi : Int) * 2 ^ s)) ((lo : Int) / 2 ^ (64 - s)) = (u : Int))
    (_hLb : L < 18446744073709551616) (hL : IntKind.u64.wrap ((lo : Int) * 2 ^ s) = (L : Int))
    (hd1b : d1 < 4294967296) (hd1 : (L : Int) / 4294967296 = (d1 : Int)) (hd0b : d0 < 4294967296) (hd0 : bits .and .u64 (L : Int) 4294967295 = (d0 : Int)) (w : World) :
    Calls Tryd.prog 96 #[.int .u64 hi, .int .u64 lo, .int .u64 y] w fun e w' => ∃ q : Int, e = .returned (.tuple #[.int .u64 q, .int .u64 (((u * 4294967296 + d1) % Y * 4294967296 + d0) % Y / 2 ^ s : Nat)]) ∧ w' = w := by
  have t1 : ((y : Int) == 0) = false := by rw [beq_eq_false_iff_ne]; omega
  have t2 : ((hi : Int) == 0) = false := by rw [beq_eq_false_iff_ne]; omega
  obtain ⟨f1, f2, f3, f4⟩ := Dv.first_le (u := u) (d := d1) (a := a) (b := b) hbb haz (by rw [← HYab.out]; exact hub) hd1b
  rw [← HYab.out] at f1
  obtain ⟨q0, hq0⟩ : ∃ q0, q0 = u / a := ⟨_, rfl⟩
  obtain ⟨r0, hr0⟩ : ∃ r0, r0 = u % a := ⟨_, rfl⟩
  rw [← hq0, ← hr0] at f3
  rw [← hq0] at f1 f2
  rw [← hr0] at f4
  have e1 : (u : Int) / (a : Int) = (q0 : Int) := by rw [hq0]; exact (Int.natCast_ediv u a).symm
  obtain ⟨z0, hz0⟩ : ∃ z0, z0 = q0 * a := ⟨_, rfl⟩
  have e2 : (q0 : Int) * (a : Int) = (z0 : Int) := by rw [hz0]; exact (Int.natCast_mul _ _).symm
  have f3' : r0 + z0 = u := by rw [hz0]; exact f3
  have e3 : (u : Int) - (z0 : Int) = (r0 : Int) := by omega
  have F3 := Lib.hid f3
  have b1 : z0 ≤ u := by omega
  clear hq0 hr0 hz0 f3 f3'
  go_enter Tryd.func96, Tryd.ntmps96
  go_wp2_with fail
  refine (lz64_any y w (by omega) (by omega)).mono ?_
  rintro e w1 ⟨rfl, rfl⟩
  rw [HS.out]
  go_upto_block 0 with fail
  clear e1 e2 e3 hY ha hb hu hL hd1 hd0 t1 t2
  obtain ⟨T, hT⟩ : ∃ T, T = Dv.dig u d1 Y := ⟨_, rfl⟩
  rw [← hT] at f1
  have HT := Lib.hid hT
  clear hT
  have HR : Hid (u < a * 4294967296 + b ∧ b < 4294967296 ∧ d1 < 4294967296) := Lib.hid ⟨by rw [← HYab.out]; exact hub, hbb, hd1b⟩
  have c5 : (a : Int) < 4294967296 := by omega
  have c6 : (d1 : Int) < 4294967296 := by omega
  have c7 : (b : Int) < 4294967296 := by omega
  have c8 : (1 : Int) ≤ (a : Int) := by omega
  have c11 : (d0 : Int) < 4294967296 := by omega
  have HN : Hid (0 < Y ∧ Y < 18446744073709551616 ∧ u < Y ∧ d0 < 4294967296 ∧ b < 4294967296 ∧ 2147483648 ≤ a ∧ s ≤ 64) := Lib.hid ⟨by omega, hYb, hub, hd0b, hbb, haz, hs64⟩
  have c12 : (s : Int) ≤ 64 := by omega
  have c9 : (r0 : Int) < 4294967296 := by omega
  have c10 : (q0 : Int) ≤ 4294967297 := by omega
  clear hbb hd1b hub haz hab hYb _hl hy h0 h1 f4 b1 _hLb hs64 hd0b
  go_cut [15, 16] from 67 to 85 (fun x _ w => x = .int .u64 T ∧ w = w1)
  case first =>
    go_wp2_with fail
    go_loopg [15, 16] q0 (fun m x y w => ∃ q r : Nat, q = m ∧ x = .int .u64 q ∧ y = .int .u64 r ∧ Hid (r + q * a = u) ∧ Hid (T ≤ q ∧ q ≤ 4294967297) ∧ (q : Int) ≤ 4294967297 ∧ (r : Int) < 4294967296 ∧ w = w1)
    case atStart => exact ⟨q0, r0, rfl, rfl, rfl, F3, Lib.hid ⟨f1, f2⟩, by omega, by omega, rfl⟩
    case round =>
      clear f1 f2
      obtain ⟨q, r, rfl, rfl, rfl, hr, hTq, hq2, hr2, rfl⟩ := hrel
      obtain ⟨z, hz⟩ : ∃ z, z = q * b := ⟨_, rfl⟩
      have ez : (q : Int) * (b : Int) = (z : Int) := by rw [hz]; exact (Int.natCast_mul _ _).symm
      have zb : (z : Int) < 18446744073709551616 := by have := Dv.mul_lo hTq.out.2 HR.out.2.1; omega
      have key := div64_round hr.out HR.out.1 HR.out.2.1 HR.out.2.2 HT.out HYab.out hz hTq.out.1 hTq.out.2
      clear hz
      rcases key with ⟨k1, k2, k3⟩ | ⟨k1, k2, k3⟩ | ⟨k1, k2, k3, k4⟩ | ⟨k1, k2, q', r', k3, k4, k5, k6⟩ | ⟨k1, k2, k3, q', r', k4, k5, k6, k7⟩
      · obtain rfl : q = T := by omega
        have t1 : decide ((4294967296 : Int) ≤ (q : Int)) = false := by rw [decide_eq_false_iff_not]; omega
        have t2 : decide (4294967296 * (r : Int) + (d1 : Int) < (z : Int)) = false := by rw [decide_eq_false_iff_not]; omega
        go_wp2_with fail
        go_meet
        exact ⟨rfl, rfl⟩
      · go_wp2_with fail
        go_meet
        exact ⟨rfl, rfl⟩
      · go_wp2_with fail
        go_meet
        exact ⟨rfl, rfl⟩
      · have K5 := Lib.hid k5
        have K6 := Lib.hid k6
        clear k5 k6
        have t3 : decide ((4294967296 : Int) ≤ (r' : Int)) = false := by rw [decide_eq_false_iff_not]; omega
        go_wp2_with fail
        go_roundg q'
        case rel => exact ⟨q', r', rfl, rfl, rfl, K5, Lib.hid ⟨K6.out, by have := hTq.out.2; omega⟩, by omega, by omega, rfl⟩
        case measure => omega
      · have K6 := Lib.hid k6
        have K7 := Lib.hid k7
        clear k6 k7
        have t1 : decide ((4294967296 : Int) ≤ (q : Int)) = false := by rw [decide_eq_false_iff_not]; omega
        have t3 : decide ((4294967296 : Int) ≤ (r' : Int)) = false := by rw [decide_eq_false_iff_not]; omega
        go_wp2_with fail
        go_roundg q'
        case rel => exact ⟨q', r', rfl, rfl, rfl, K6, Lib.hid ⟨K7.out, by have := hTq.out.2; omega⟩, by omega, by omega, rfl⟩
        case measure => omega
  case rest =>
    obtain ⟨rfl, rfl⟩ := hcut
    clear F3 f1 f2 c9 c10 HR
    obtain ⟨v, hv⟩ : ∃ v, v = (u * 4294967296 + d1) % Y := ⟨_, rfl⟩
    have hvY : v < Y := by rw [hv]; exact Nat.mod_lt _ HN.out.1
    have ev : IntKind.u64.wrap (IntKind.u64.wrap (IntKind.u64.wrap (↑u * 4294967296) + ↑d1) - IntKind.u64.wrap (↑T * ↑Y)) = (v : Int) := by
      have h1 := Dv.rest_int (d := d1) HN.out.2.2.1 HN.out.2.1 HT.out
      rw [← hv] at h1
      rw [← h1]
      simp only [IntKind.wrap_u64, Int.natCast_mul]
      omega
    obtain ⟨f1, f2, f3, f4⟩ := Dv.first_le (u := v) (d := d0) (a := a) (b := b) HN.out.2.2.2.2.1 HN.out.2.2.2.2.2.1 (by rw [← HYab.out]; exact hvY) HN.out.2.2.2.1
    rw [← HYab.out] at f1
    obtain ⟨q1, hq1⟩ : ∃ q1, q1 = v / a := ⟨_, rfl⟩
    obtain ⟨r1, hr1⟩ : ∃ r1, r1 = v % a := ⟨_, rfl⟩
    rw [← hq1, ← hr1] at f3
    rw [← hq1] at f1 f2
    rw [← hr1] at f4
    have e1 : (v : Int) / (a : Int) = (q1 : Int) := by rw [hq1]; exact (Int.natCast_ediv v a).symm
    obtain ⟨z1, hz1⟩ : ∃ z1, z1 = q1 * a := ⟨_, rfl⟩
    have e2 : (q1 : Int) * (a : Int) = (z1 : Int) := by rw [hz1]; exact (Int.natCast_mul _ _).symm
    have f3' : r1 + z1 = v := by rw [hz1]; exact f3
    have e3 : (v : Int) - (z1 : Int) = (r1 : Int) := by omega
    have F3 := Lib.hid f3
    have HV := Lib.hid hv
    have b1 : (z1 : Int) ≤ v := by omega
    have b2 : (v : Int) < 18446744073709551616 := by have := HN.out.2.1; omega
    have c9 : (r1 : Int) < 4294967296 := by omega
    have c10 : (q1 : Int) ≤ 4294967297 := by omega
    obtain ⟨S, hS⟩ : ∃ S, S = Dv.dig v d0 Y := ⟨_, rfl⟩
    rw [← hS] at f1
    have HS := Lib.hid hS
    have FF : Hid (S ≤ q1 ∧ q1 ≤ 4294967297) := Lib.hid ⟨f1, f2⟩
    have HR : Hid (v < a * 4294967296 + b ∧ b < 4294967296 ∧ d0 < 4294967296) := Lib.hid ⟨by rw [← HYab.out]; exact hvY, HN.out.2.2.2.2.1, HN.out.2.2.2.1⟩
    have HVY := Lib.hid hvY
    clear hq1 hr1 hz1 f3 f3' hv hS f1 f2 f4 hvY
    go_upto_block 2 with fail
    clear e1 e2 e3 ev b1 b2
    go_cut [18, 16] from 102 to 120 (fun x _ w => x = .int .u64 S ∧ w = wc)
    case first =>
      go_wp2_with fail
      go_loopg [18, 16] q1 (fun m x y w => ∃ q r : Nat, q = m ∧ x = .int .u64 q ∧ y = .int .u64 r ∧ Hid (r + q * a = v) ∧ Hid (S ≤ q ∧ q ≤ 4294967297) ∧ (q : Int) ≤ 4294967297 ∧ (r : Int) < 4294967296 ∧ w = wc)
      case atStart => exact ⟨q1, r1, rfl, rfl, rfl, F3, FF, by omega, by omega, rfl⟩
      case round =>
        obtain ⟨q, r, rfl, rfl, rfl, hr, hTq, hq2, hr2, rfl⟩ := hrel
        obtain ⟨z, hz⟩ : ∃ z, z = q * b := ⟨_, rfl⟩
        have ez : (q : Int) * (b : Int) = (z : Int) := by rw [hz]; exact (Int.natCast_mul _ _).symm
        have zb : (z : Int) < 18446744073709551616 := by have := Dv.mul_lo hTq.out.2 HR.out.2.1; omega
        have key := div64_round hr.out HR.out.1 HR.out.2.1 HR.out.2.2 HS.out HYab.out hz hTq.out.1 hTq.out.2
        clear hz
        rcases key with ⟨k1, k2, k3⟩ | ⟨k1, k2, k3⟩ | ⟨k1, k2, k3, k4⟩ | ⟨k1, k2, q', r', k3, k4, k5, k6⟩ | ⟨k1, k2, k3, q', r', k4, k5, k6, k7⟩
        · obtain rfl : q = S := by omega
          have t1 : decide ((4294967296 : Int) ≤ (q : Int)) = false := by rw [decide_eq_false_iff_not]; omega
          have t2 : decide (4294967296 * (r : Int) + (d0 : Int) < (z : Int)) = false := by rw [decide_eq_false_iff_not]; omega
          go_wp2_with fail
          go_meet
          exact ⟨rfl, rfl⟩
        · go_wp2_with fail
          go_meet
          exact ⟨rfl, rfl⟩
        · go_wp2_with fail
          go_meet
          exact ⟨rfl, rfl⟩
        · have K5 := Lib.hid k5
          have K6 := Lib.hid k6
          clear k5 k6
          have t3 : decide ((4294967296 : Int) ≤ (r' : Int)) = false := by rw [decide_eq_false_iff_not]; omega
          go_wp2_with fail
          go_roundg q'
          case rel => exact ⟨q', r', rfl, rfl, rfl, K5, Lib.hid ⟨K6.out, by have := hTq.out.2; omega⟩, by omega, by omega, rfl⟩
          case measure => omega
        · have K6 := Lib.hid k6
          have K7 := Lib.hid k7
          clear k6 k7
          have t1 : decide ((4294967296 : Int) ≤ (q : Int)) = false := by rw [decide_eq_false_iff_not]; omega
          have t3 : decide ((4294967296 : Int) ≤ (r' : Int)) = false := by rw [decide_eq_false_iff_not]; omega
          go_wp2_with fail
          go_roundg q'
          case rel => exact ⟨q', r', rfl, rfl, rfl, K6, Lib.hid ⟨K7.out, by have := hTq.out.2; omega⟩, by omega, by omega, rfl⟩
          case measure => omega
    case rest =>
      obtain ⟨rfl, rfl⟩ := hcut
      obtain ⟨x, hx⟩ : ∃ x, x = (v * 4294967296 + d0) % Y := ⟨_, rfl⟩
      have ex : IntKind.u64.wrap (IntKind.u64.wrap (IntKind.u64.wrap (↑v * 4294967296) + ↑d0) - IntKind.u64.wrap (↑S * ↑Y)) = (x : Int) := by
        have h1 := Dv.rest_int (d := d0) HVY.out HN.out.2.1 HS.out
        rw [← hx] at h1
        rw [← h1]
        simp only [IntKind.wrap_u64, Int.natCast_mul]
        omega
      obtain ⟨R, hR⟩ : ∃ R, R = x / 2 ^ s := ⟨_, rfl⟩
      have eR : (x : Int) / 2 ^ s = (R : Int) := by rw [hR]; simp
      have HX := Lib.hid hx
      have HRR := Lib.hid hR
      clear hx hR
      go_wp2_with fail
      clear ex eR
      go_ret2
      refine ⟨IntKind.u64.wrap (IntKind.u64.wrap (↑T * 4294967296) + ↑S), ?_, rfl⟩
      rw [← HV.out, ← HX.out, ← HRR.out]
      rfl

theorem or_parts {x y k : Nat} (hx : x % 2 ^ k = 0) (hy : y < 2 ^ k) : x ||| y = x + y := by
  have e : x = 2 ^ k * (x / 2 ^ k) := by have := Nat.div_add_mod x (2 ^ k); omega
  rw [e, ← Nat.two_pow_add_eq_or_of_lt hy]

theorem bl_bounds : ∀ (k x : Nat), k ≤ 64 → x < 2 ^ k → x ≠ 0 → 1 ≤ Lib.bitLen x ∧ 2 ^ (Lib.bitLen x - 1) ≤ x ∧ x < 2 ^ Lib.bitLen x := by
  intro k
  induction k with
  | zero => intro x _ h h0; simp at h; exact absurd h h0
  | succ k ih =>
    intro x hk h h0
    have h64 : x < 2 ^ 64 := Nat.lt_of_lt_of_le h (Nat.pow_le_pow_right (by decide) hk)
    rw [Lib.bitLen_half x h0 h64]
    by_cases h2 : x / 2 = 0
    · have : x = 1 := by omega
      subst this
      have e : Lib.bitLen (1 / 2) = 0 := by decide
      rw [e]; decide
    · have hx2 : x / 2 < 2 ^ k := by rw [Nat.pow_succ] at h; omega
      obtain ⟨i1, i2, i3⟩ := ih (x / 2) (by omega) hx2 h2
      refine ⟨by omega, ?_, ?_⟩
      · have e : 1 + Lib.bitLen (x / 2) - 1 = (Lib.bitLen (x / 2) - 1) + 1 := by omega
        rw [e, Nat.pow_succ]; omega
      · rw [Nat.add_comm 1, Nat.pow_succ]; omega

theorem castShl (a s : Nat) : (a : Int) * 2 ^ s = ((a * 2 ^ s : Nat) : Int) := by push_cast; rfl

theorem div64_hi (hi lo y : Nat) (h0 : 0 < hi) (h1 : hi < y) (hl : lo < 18446744073709551616) (hy : y < 18446744073709551616) (w : World) :
    Calls Tryd.prog 96 #[.int .u64 hi, .int .u64 lo, .int .u64 y] w fun e w' => ∃ q : Int, e = .returned (.tuple #[.int .u64 q, .int .u64 ((hi * 18446744073709551616 + lo) % y : Nat)]) ∧ w' = w := by
  have hbl := bitLen_le64 (y : Int) (by omega) (by omega)
  rw [Int.toNat_natCast] at hbl
  obtain ⟨s, hs⟩ : ∃ s, Lib.bitLen y + s = 64 := ⟨64 - Lib.bitLen y, by omega⟩
  obtain ⟨p0, p2', p1⟩ := bl_bounds 64 y (Nat.le_refl _) hy (by omega)
  have p2 : 2 ^ Lib.bitLen y ≤ 2 * y := by
    have e : Lib.bitLen y = (Lib.bitLen y - 1) + 1 := by omega
    rw [e, Nat.pow_succ]; omega
  have e64 : (2 : Nat) ^ Lib.bitLen y * 2 ^ s = 18446744073709551616 := by rw [← Nat.pow_add, hs]
  have ps : 0 < 2 ^ s := Nat.two_pow_pos s
  have pm : (2 : Nat) ^ Lib.bitLen y = 2 ^ (64 - s) := by congr 1; omega
  have hYb : y * 2 ^ s < 18446744073709551616 := by rw [← e64]; exact Nat.mul_lt_mul_of_pos_right p1 ps
  have hYn : 18446744073709551616 ≤ 2 * (y * 2 ^ s) := by rw [← e64, ← Nat.mul_assoc]; exact Nat.mul_le_mul_right _ p2
  have hhi : hi * 2 ^ s + 2 ^ s ≤ y * 2 ^ s := by rw [← Nat.succ_mul]; exact Nat.mul_le_mul_right _ h1
  have hlo : lo / 2 ^ (64 - s) < 2 ^ s := by rw [Nat.div_lt_iff_lt_mul (Nat.two_pow_pos _), ← pm, Nat.mul_comm, e64]; exact hl
  have hlm : lo / 2 ^ (64 - s) * 18446744073709551616 + lo * 2 ^ s % 18446744073709551616 = lo * 2 ^ s := by
    have := Nat.div_add_mod' (lo * 2 ^ s) 18446744073709551616
    rw [← this]
    congr 2
    rw [← e64, pm, Nat.mul_div_mul_right _ _ ps]
  have core := div64_core hi lo y s (y * 2 ^ s) (y * 2 ^ s / 4294967296) (y * 2 ^ s % 4294967296) (hi * 2 ^ s + lo / 2 ^ (64 - s)) (lo * 2 ^ s % 18446744073709551616)
    (lo * 2 ^ s % 18446744073709551616 / 4294967296) (lo * 2 ^ s % 18446744073709551616 % 4294967296) h0 h1 hl hy
    (Lib.hid (by rw [Int.toNat_natCast]; omega)) (by omega) hYb (by rw [castShl, W64.wrapN _ hYb]) (by omega) (by omega) (by omega) (by omega)
    (W64.maskN _ hYb) (Lib.hid (by omega)) (by omega)
    (by
      have e1 : IntKind.u64.wrap ((hi : Int) * 2 ^ s) = ((hi * 2 ^ s : Nat) : Int) := by rw [castShl, W64.wrapN _ (by omega)]
      have e2 : ((lo : Int) / 2 ^ (64 - s)) = ((lo / 2 ^ (64 - s) : Nat) : Int) := by simp
      rw [e1, e2, bits_or_u64_nat _ _ (by omega) (by omega), or_parts (Nat.mul_mod_left _ _) hlo])
    (by omega) (by rw [castShl, W64.wrapM]) (by omega) (by omega) (by omega) (W64.maskN _ (by omega)) w
  have key : (((hi * 2 ^ s + lo / 2 ^ (64 - s)) * 4294967296 + lo * 2 ^ s % 18446744073709551616 / 4294967296) % (y * 2 ^ s) * 4294967296 + lo * 2 ^ s % 18446744073709551616 % 4294967296) % (y * 2 ^ s) / 2 ^ s
      = (hi * 18446744073709551616 + lo) % y := by
    rw [Dv.two_digits, Nat.add_mul, Nat.add_assoc, hlm]
    have : hi * 2 ^ s * 18446744073709551616 + lo * 2 ^ s = (hi * 18446744073709551616 + lo) * 2 ^ s := by
      rw [Nat.add_mul, Nat.mul_assoc, Nat.mul_comm (2 ^ s), ← Nat.mul_assoc]
    rw [this, Dv.scaled _ _ _ ps]
  rw [key] at core
  exact core

set_option maxRecDepth 100000 in
theorem div64_lo (lo y : Nat) (h1 : 0 < y) (hl : lo < 18446744073709551616) (hy : y < 18446744073709551616) (w : World) :
    Calls Tryd.prog 96 #[.int .u64 0, .int .u64 lo, .int .u64 y] w fun e w' => ∃ q : Int, e = .returned (.tuple #[.int .u64 q, .int .u64 (lo % y : Nat)]) ∧ ∃ n, w' = w.drewN n := by
  have t1 : ((y : Int) == 0) = false := by rw [beq_eq_false_iff_ne]; omega
  have b1 : (1 : Int) ≤ y := by omega
  have b2 : (y : Int) < 18446744073709551616 := by omega
  have b3 : (lo : Int) < 18446744073709551616 := by omega
  have t0 : decide (y = 0) = false := by rw [decide_eq_false_iff_not]; omega
  have e1 : (lo : Int) % (y : Int) = ((lo % y : Nat) : Int) := by simp
  clear h1 hl hy
  go_enter Tryd.func96, Tryd.ntmps96
  go_upto_region 6 with fail
  go_quiet (fail)
  go_wp2_with fail
  clear e1
  go_ret2
  have e1 : (lo : Int) % (y : Int) = ((lo % y : Nat) : Int) := by simp
  refine ⟨IntKind.u64.wrap (↑lo / ↑y), ?_, _, rfl⟩
  rw [← e1]
  rfl

theorem div64_any (hi lo y : Nat) (h1 : hi < y) (hl : lo < 18446744073709551616) (hy : y < 18446744073709551616) (w : World) :
    Calls Tryd.prog 96 #[.int .u64 hi, .int .u64 lo, .int .u64 y] w fun e w' => ∃ q : Int, e = .returned (.tuple #[.int .u64 q, .int .u64 ((hi * 18446744073709551616 + lo) % y : Nat)]) ∧ ∃ n, w' = w.drewN n := by
  by_cases h0 : hi = 0
  · subst h0
    rw [Nat.zero_mul, Nat.zero_add]
    exact div64_lo lo y h1 hl hy w
  · exact (div64_hi hi lo y (by omega) h1 hl hy w).mono fun e w' ⟨q, he, hw⟩ => ⟨q, he, 0, hw⟩
end Go.Proofs.YtelikpkekloffaaDoor
