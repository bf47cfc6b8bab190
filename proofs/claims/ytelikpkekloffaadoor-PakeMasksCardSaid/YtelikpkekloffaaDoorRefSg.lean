/- The reference's signatures (ref05) and scalars (ref03), walked. -/
import Derived.Test.YtelikpkekloffaaDoorRefH
import Derived.Test.YtelikpkekloffaaDoorSane5
namespace Go.Proofs.YtelikpkekloffaaDoor
open Go.RowKit

set_option maxHeartbeats 1000000 in
theorem r3_scalar (k : Int) (w : World) : Calls Tryd.prog 90 #[.int .i64 k] w fun e w' => e = .returned (.bool (Gp.isSc k)) ∧ w' = w := by
  cases hk : Gp.isSc k with
  | true =>
    obtain ⟨n, rfl, hn⟩ := Gp.isSc_nat hk
    have t2 : decide ((n : Int) < 2305843009213688669) = true := by rw [decide_eq_true_eq]; omega
    clear hk hn
    go_enter Tryd.func90, Tryd.ntmps90
    go_wp2_with fail
    go_ret
    exact ⟨rfl, rfl⟩
  | false =>
    rcases Gp.isSc_not hk with h | ⟨h0, h⟩
    · have t1 : decide ((0 : Int) ≤ k) = false := by rw [decide_eq_false_iff_not]; omega
      clear hk h
      go_enter Tryd.func90, Tryd.ntmps90
      go_wp2_with fail
      go_ret
      exact ⟨rfl, rfl⟩
    · have t1 : decide ((0 : Int) ≤ k) = true := by rw [decide_eq_true_eq]; omega
      have t2 : decide (k < 2305843009213688669) = false := by rw [decide_eq_false_iff_not]; omega
      clear hk h h0
      go_enter Tryd.func90, Tryd.ntmps90
      go_wp2_with fail
      go_ret
      exact ⟨rfl, rfl⟩

set_option maxHeartbeats 1000000 in
theorem r3_sum (a b : Nat) (ha : a < 2305843009213688669) (hb : b ≤ 2305843009213688669) (w : World) :
    Calls Tryd.prog 108 #[.int .i64 a, .int .i64 b] w fun e w' => e = .returned (.int .i64 ((a + b) % 2305843009213688669 : Nat)) ∧ w' = w := by
  obtain ⟨r, hr⟩ : ∃ r, r = (a + b) % 2305843009213688669 := ⟨_, rfl⟩
  have e1 : ((a : Int) + (b : Int)).tmod 2305843009213688669 = (r : Int) := by rw [Int.tmod_eq_emod_of_nonneg (by omega)]; omega
  have e2 : ((a : Int) + (b : Int)) % 2305843009213688669 = (r : Int) := by omega
  have b1 : (a : Int) < 2305843009213688669 := by omega
  have b2 : (b : Int) ≤ 2305843009213688669 := by omega
  rw [← hr]
  clear hr ha hb
  go_enter Tryd.func108, Tryd.ntmps108
  go_wp2_with fail
  go_ret
  exact ⟨rfl, rfl⟩

set_option maxRecDepth 100000 in
set_option maxHeartbeats 1000000 in
theorem r3_product (a b : Nat) (ha : a < 2305843009213688669) (hb : b < 9223372036854775808) (w : World) :
    Calls Tryd.prog 107 #[.int .i64 a, .int .i64 b] w fun e w' => e = .returned (.int .i64 (Gp.mu 2305843009213688669 a b : Nat)) ∧ w' = w := by
  have HA := Lib.hid ha
  have HB := Lib.hid hb
  clear ha hb
  go_enter Tryd.func107, Tryd.ntmps107
  go_wp2_with fail
  go_loopg [0, 1, 5] b (fun g s0 s1 s5 wr => wr = w ∧ ∃ x y c : Nat, y = g ∧ s0 = .int .i64 x ∧ s1 = .int .i64 y ∧ s5 = .int .i64 c ∧ Hid (x < 2305843009213688669 ∧ c < 2305843009213688669 ∧ y < 9223372036854775808 ∧ (c + x * y) % 2305843009213688669 = a * b % 2305843009213688669))
  case atStart => exact ⟨rfl, a, b, 0, rfl, rfl, rfl, rfl, Lib.hid ⟨HA.out, by have := HA.out; omega, HB.out, by rw [Nat.zero_add]⟩⟩
  case round =>
    obtain ⟨rfl, x, y, c, rfl, rfl, rfl, rfl, hr⟩ := hrel
    obtain ⟨h, hh⟩ : ∃ h, h = y / 2 := ⟨_, rfl⟩
    have e2 : (y : Int) / 2 = (h : Int) := by omega
    have S1 := Lib.hid (fun w => r3_sum c x hr.out.2.1 (Nat.le_of_lt hr.out.1) w)
    have S2 := Lib.hid (fun w => r3_sum x x hr.out.1 (Nat.le_of_lt hr.out.1) w)
    have L1 : (c + x) % 2305843009213688669 < 2305843009213688669 := Nat.mod_lt _ (by have := hr.out.1; omega)
    have L2 : (x + x) % 2305843009213688669 < 2305843009213688669 := Nat.mod_lt _ (by have := hr.out.1; omega)
    have bh : h < 9223372036854775808 := by have := hr.out.2.2.1; omega
    have bm : h < y ∨ y = 0 := by omega
    have BND := Lib.hid (show _ ∧ _ ∧ _ ∧ _ from ⟨L1, L2, bh, bm⟩)
    have by' : (y : Int) < 9223372036854775808 := by have := hr.out.2.2.1; omega
    by_cases hy : y = 0
    · obtain rfl := hy
      have hfin : c = Gp.mu 2305843009213688669 a b := by
        have := hr.out.2.2.2
        rw [Nat.mul_zero, Nat.add_zero, Nat.mod_eq_of_lt hr.out.2.1] at this
        exact this
      have HF := Lib.hid hfin
      clear hfin L1 L2 bh bm hh e2
      go_wp2_with fail
      go_ret
      exact ⟨by rw [HF.out]; rfl, rfl⟩
    · have t0 : decide (0 < y) = true := by rw [decide_eq_true_eq]; omega
      have t0' : decide (0 < (y : Int)) = true := by rw [decide_eq_true_eq]; omega
      by_cases hp : y % 2 = 1
      · have t1 : ((y : Int) % 2 == 1) = true := by rw [beq_iff_eq]; omega
        have k := prod_odd (m := 2305843009213688669) (x := x) (y := y) (c := c) (h := h) (by omega)
        have K := Lib.hid k
        clear k L1 L2 bh bm hh hy hp
        go_wp2_with fail
        refine (S1.out _).mono ?_
        rintro e w1 ⟨rfl, rfl⟩
        go_wp2_with fail
        refine (S2.out _).mono ?_
        rintro e w1 ⟨rfl, rfl⟩
        go_wp2_with fail
        go_roundg h
        case rel => exact ⟨rfl, (x + x) % 2305843009213688669, h, (c + x) % 2305843009213688669, rfl, rfl, rfl, rfl, Lib.hid ⟨BND.out.2.1, BND.out.1, BND.out.2.2.1, by rw [K.out]; exact hr.out.2.2.2⟩⟩
        case measure => have := BND.out.2.2.2; simp at t0; omega
      · have t1 : ((y : Int) % 2 == 1) = false := by rw [beq_eq_false_iff_ne]; omega
        have k := prod_even (m := 2305843009213688669) (x := x) (y := y) (c := c) (h := h) (by omega)
        have K := Lib.hid k
        clear k L1 L2 bh bm hh hy hp
        go_wp2_with fail
        refine (S2.out _).mono ?_
        rintro e w1 ⟨rfl, rfl⟩
        go_wp2_with fail
        go_roundg h
        case rel => exact ⟨rfl, (x + x) % 2305843009213688669, h, c, rfl, rfl, rfl, rfl, Lib.hid ⟨BND.out.2.1, hr.out.2.1, BND.out.2.2.1, by rw [K.out]; exact hr.out.2.2.2⟩⟩
        case measure => have := BND.out.2.2.2; simp at t0; omega


set_option maxHeartbeats 1000000 in
theorem r3_mul (a b : Nat) (ha : a < 2305843009213688669) (hb : b < 2305843009213688669) (w : World) :
    Calls Tryd.prog 87 #[.int .i64 a, .int .i64 b] w fun e w' => e = .returned (.tuple #[.int .i64 (Gp.mu 2305843009213688669 a b : Nat), .int .i64 0]) ∧ w' = w := by
  have H1 := Lib.hid (fun w => r3_scalar (a : Int) w)
  have H2 := Lib.hid (fun w => r3_scalar (b : Int) w)
  rw [Gp.isSc_of ha] at H1
  rw [Gp.isSc_of hb] at H2
  have H3 := Lib.hid (fun w => r3_product a b ha (by omega) w)
  generalize Gp.mu 2305843009213688669 a b = M at *
  clear ha hb
  go_enter Tryd.func87, Tryd.ntmps87
  go_wp2_with fail
  refine (H1.out _).mono ?_
  rintro e w1 ⟨rfl, rfl⟩
  go_wp2_with fail
  refine (H2.out _).mono ?_
  rintro e w1 ⟨rfl, rfl⟩
  go_wp2_with fail
  refine (H3.out _).mono ?_
  rintro e w1 ⟨rfl, rfl⟩
  go_wp2_with fail
  go_ret2
  exact ⟨rfl, rfl⟩
set_option maxHeartbeats 1000000 in
theorem r3_add (a b : Nat) (ha : a < 2305843009213688669) (hb : b < 2305843009213688669) (w : World) :
    Calls Tryd.prog 89 #[.int .i64 a, .int .i64 b] w fun e w' => e = .returned (.tuple #[.int .i64 ((a + b) % 2305843009213688669 : Nat), .int .i64 0]) ∧ w' = w := by
  have H1 := Lib.hid (fun w => r3_scalar (a : Int) w)
  have H2 := Lib.hid (fun w => r3_scalar (b : Int) w)
  rw [Gp.isSc_of ha] at H1
  rw [Gp.isSc_of hb] at H2
  have H3 := Lib.hid (fun w => r3_sum a b ha (Nat.le_of_lt hb) w)
  generalize (a + b) % 2305843009213688669 = M at *
  clear ha hb
  go_enter Tryd.func89, Tryd.ntmps89
  go_wp2_with fail
  refine (H1.out _).mono ?_
  rintro e w1 ⟨rfl, rfl⟩
  go_wp2_with fail
  refine (H2.out _).mono ?_
  rintro e w1 ⟨rfl, rfl⟩
  go_wp2_with fail
  refine (H3.out _).mono ?_
  rintro e w1 ⟨rfl, rfl⟩
  go_wp2_with fail
  go_ret2
  exact ⟨rfl, rfl⟩

set_option maxHeartbeats 1000000 in
theorem r5_private_ok (x : Nat) (h1 : 1 ≤ x) (h2 : x < 2305843009213688669) (w : World) : Calls Tryd.prog 83 #[.int .i64 x] w fun e w' => e = .returned (.bool true) ∧ w' = w := by
  have t1 : decide ((1 : Int) ≤ (x : Int)) = true := by rw [decide_eq_true_eq]; omega
  have t2 : decide ((x : Int) < 2305843009213688669) = true := by rw [decide_eq_true_eq]; omega
  clear h1 h2
  go_enter Tryd.func83, Tryd.ntmps83
  go_wp2_with fail
  go_ret
  exact ⟨rfl, rfl⟩
set_option maxHeartbeats 1000000 in
theorem r5_private_no (x : Int) (h : x < 1 ∨ 2305843009213688669 ≤ x) (w : World) : Calls Tryd.prog 83 #[.int .i64 x] w fun e w' => e = .returned (.bool false) ∧ w' = w := by
  by_cases h1 : x < 1
  · have t1 : decide ((1 : Int) ≤ x) = false := by rw [decide_eq_false_iff_not]; omega
    clear h h1
    go_enter Tryd.func83, Tryd.ntmps83
    go_wp2_with fail
    go_ret
    exact ⟨rfl, rfl⟩
  · have t1 : decide ((1 : Int) ≤ x) = true := by rw [decide_eq_true_eq]; omega
    have t2 : decide (x < 2305843009213688669) = false := by rw [decide_eq_false_iff_not]; omega
    clear h h1
    go_enter Tryd.func83, Tryd.ntmps83
    go_wp2_with fail
    go_ret
    exact ⟨rfl, rfl⟩

theorem gExp4 (k : Nat) (hk : k < 2305843009213688669) : Gp.gExp 4 (k : Int) = (((Gp.pw 4611686018427377339 4 k : Nat) : Int), 0) := by
  rw [Gp.gExp_ok Gp.el4 (Gp.isSc_of hk), Int.toNat_natCast, show (4 : Int).toNat = 4 from rfl]
set_option maxHeartbeats 1000000 in
theorem r5_public_ok (x : Nat) (h1 : 1 ≤ x) (h2 : x < 2305843009213688669) (w : World) : Calls Tryd.prog 51 #[.int .i64 x] w fun e w' => e = .returned (.tuple #[.int .i64 (Gp.pw 4611686018427377339 4 x : Nat), .int .i64 0]) ∧ w' = w := by
  have H1 := Lib.hid (fun w => r5_private_ok x h1 h2 w)
  have H2 := Lib.hid (fun w => rbase_any (x : Int) w)
  rw [gExp4 x h2] at H2
  generalize Gp.pw 4611686018427377339 4 x = P at *
  clear h1 h2
  go_enter Tryd.func51, Tryd.ntmps51
  go_wp2_with fail
  refine (H1.out _).mono ?_
  rintro e w1 ⟨rfl, rfl⟩
  go_wp2_with fail
  refine (H2.out _).mono ?_
  rintro e w1 ⟨rfl, rfl⟩
  go_wp2_with fail
  go_ret2
  exact ⟨rfl, rfl⟩
set_option maxHeartbeats 1000000 in
theorem r5_public_no (x : Int) (h : x < 1 ∨ 2305843009213688669 ≤ x) (w : World) : Calls Tryd.prog 51 #[.int .i64 x] w fun e w' => e = .returned (.tuple #[.int .i64 0, .int .i64 50]) ∧ w' = w := by
  have H1 := Lib.hid (fun w => r5_private_no x h w)
  clear h
  go_enter Tryd.func51, Tryd.ntmps51
  go_wp2_with fail
  refine (H1.out _).mono ?_
  rintro e w1 ⟨rfl, rfl⟩
  go_wp2_with fail
  go_ret2
  exact ⟨rfl, rfl⟩

set_option maxHeartbeats 4000000 in
set_option maxRecDepth 100000 in
theorem r5_bytes (v : Int) (w : World) :
    Calls Tryd.prog 86 #[.int .i64 v] w fun e w' => ∃ r, e = .returned r ∧ w'.ownsRow w.heap.size 5 1 r 8 (bl 8 (by8 (uN v))) ∧ Below w.heap.size w w' := by
  have e1 := uN_wrap v
  go_enter Tryd.func86, Tryd.ntmps86
  go_wp2_with fail
  go_loopg [3, 4] 8 (fun g x y wr => ∃ (r : Value) (j : Nat), x = r ∧ y = .int .i64 ((7 : Int) - (j : Int)) ∧ Hid (j + g = 8) ∧ Hid (wr.ownsRow w.heap.size 5 1 r j (bl j (by8 (uN v))) ∧ Below w.heap.size w wr))
  case atStart => exact ⟨_, 0, rfl, by go_num, Lib.hid rfl, Lib.hid ⟨owns_empty w, (Below.refl _ _).alloc (Nat.le_refl _) _⟩⟩
  case round =>
    obtain ⟨r, j, rfl, rfl, hj, ho⟩ := hrel
    by_cases h8 : j < 8
    · obtain ⟨q, hq⟩ : ∃ q, q = 7 - j := ⟨_, rfl⟩
      have e7 : (7 : Int) - (j : Int) = (q : Int) := by omega
      have b7 : (q : Int) ≤ 7 := by omega
      have t2 : decide ((0 : Int) ≤ (q : Int)) = true := by rw [decide_eq_true_eq]; omega
      obtain ⟨y2, hy2⟩ : ∃ y, y = uN v / 2 ^ (8 * q) := ⟨_, rfl⟩
      obtain ⟨z, hz⟩ : ∃ z, z = y2 % 256 := ⟨_, rfl⟩
      have e8 : (uN v : Int) / 2 ^ (8 * q) = (y2 : Int) := by rw [hy2]; push_cast; rfl
      have e9 : IntKind.u8.wrap (y2 : Int) = (z : Int) := by
        rw [hz]
        simp only [IntKind.wrap, IntKind.bits, IntKind.signed]; simp
      have hzl : z < 256 := by rw [hz]; exact Nat.mod_lt _ (by decide)
      have hpad : by8 (uN v) j = z := by
        unfold by8
        rw [show 56 - 8 * j = 8 * q by omega, ← hy2, hz]
      have HPAD := Lib.hid hpad
      have HZL := Lib.hid hzl
      have H8 := Lib.hid h8
      have e6 : (q : Int) - 1 = 7 - ((j + 1 : Nat) : Int) := by omega
      have E6 := Lib.hid e6
      generalize uN v = V at *
      clear hq hz hy2 hzl hpad h8 e6
      go_wp2_with (at_builtin; refine wpList_append_b _ rfl (.tmp 10) (.tmp 17) rfl w.heap.size _ j _ rfl (ho.out.1.alloc _) _ 1 1 (fun _ => z) rfl (byte_new _ z HZL.out) (by have := H8.out; omega) (by have := ho.out.2.size; rw [alloc_size]; omega) ?_; intro v3 w3 ho3)
      have e5 : bl j (by8 V) ++ bl 1 (fun _ => z) = bl (j + 1) (by8 V) := by
        rw [← bl_succ j (by8 V), HPAD.out]
      rw [e5] at ho3
      go_roundg (8 - (j + 1))
      case rel => exact ⟨_, j + 1, rfl, by rw [E6.out], Lib.hid (by have := H8.out; omega), Lib.hid ⟨ho3.out.1, (ho.out.2.alloc ho.out.2.size _).trans ho3.out.2⟩⟩
      case measure => have := hj.out; have := H8.out; omega
    · obtain rfl : j = 8 := by have := hj.out; omega
      have t2 : decide ((0 : Int) ≤ 7 - ((8 : Nat) : Int)) = false := by decide
      clear h8
      go_wp2_with fail
      go_ret
      exact ⟨_, rfl, ho.out⟩

set_option maxHeartbeats 4000000 in
set_option maxRecDepth 100000 in
theorem r5_challenge (pub r : Int) (p : Option Addr) (n c : Nat) (f : Nat → Nat) (w : World) (hb : Bytes w p n c f) (hn : n ≤ 1000) :
    Calls Tryd.prog 88 #[.int .i64 pub, .int .i64 r, .slice p n c] w fun e w' => e = .returned (.int .i64 (chOf r pub n f : Nat)) ∧ Below w.heap.size w w' := by
  have HB := Lib.hid hb
  have HN := Lib.hid hn
  clear hb hn
  go_enter Tryd.func88, Tryd.ntmps88
  go_wp2_with fail
  refine (r5_bytes r w).mono ?_
  rintro e w1 ⟨v1, rfl, hr1, hb1⟩
  have HR1 := Lib.hid hr1
  have HB1 := Lib.hid hb1
  clear hr1 hb1
  go_wp2_with fail
  refine (r5_bytes pub w1).mono ?_
  rintro e w2 ⟨v2, rfl, hr2, hb2⟩
  have HR2 := Lib.hid (owns_below HR1.out hb2 (Nat.le_refl _))
  have HB2 := Lib.hid (HB1.out.trans (hb2.mono HB1.out.size))
  obtain ⟨p2, c2, rfl, hby2, hc2⟩ := Bytes.own hr2 (fun i hi => bl_get _ _ i hi) (fun i _ => by8_lt _ _)
  have HY2 := Lib.hid hby2
  have HMB := Lib.hid (HB.out.below HB2.out (Nat.le_refl _))
  have hsz := HB2.out.size
  have HSZ := Lib.hid hsz
  clear hb2 hr2 hby2 hc2 HR1 HB1 hsz
  go_wp2_with first
    | (at_builtin; refine wpList_append_b _ rfl (.tmp 8) (.tmp 10) rfl w.heap.size _ 8 _ rfl HR2.out p2 8 c2 _ rfl HY2.out (by omega) HSZ.out ?_; intro v3 w3 ho3)
    | (at_builtin; refine wpList_append_b _ rfl (.tmp 11) (.tmp 12) rfl w.heap.size _ (8 + 8) _ rfl ho3.out.1 p n c f rfl (HB.out.below (HB2.out.trans ho3.out.2) (Nat.le_refl _)) (by have := HN.out; omega) (HB2.out.trans ho3.out.2).size ?_; intro v4 w4 ho4)
  have ho5 := ho4.out.1
  rw [bl_cat, bl_cat] at ho5
  have hB4 := Lib.hid ((HB2.out.trans ho3.out.2).trans ho4.out.2)
  have hcg : ∀ i, i < 8 + 8 + n → Sha.cat (8 + 8) (Sha.cat 8 (by8 (uN r)) (by8 (uN pub))) f i = Sha.cat (8 * 2) (nb8 (two r pub)) f i := fun i _ => by
    show (if i < 8 + 8 then Sha.cat 8 (by8 (uN r)) (by8 (uN pub)) i else f (i - (8 + 8))) = (if i < 8 * 2 then nb8 (two r pub) i else f (i - 8 * 2))
    by_cases h : i < 16
    · rw [if_pos (by omega), if_pos (by omega), nb8_two r pub i h]
    · rw [if_neg (by omega), if_neg (by omega)]
  rw [bl_congr hcg] at ho5
  obtain ⟨p5, c5, rfl, hb5, hc5⟩ := Bytes.own ho5 (fun i hi => bl_get _ _ i hi) (fun i hi => by
    unfold Sha.cat
    by_cases h : i < 8 * 2
    · rw [if_pos h]; exact nb8_lt _ _
    · rw [if_neg h]; exact HB.out.byte _ (by omega))
  have HS := Lib.hid (rscalar_any signT p5 (8 + 8 + n) c5 (Sha.cat (8 * 2) (nb8 (two r pub)) f) w4 hb5 (by have := HN.out; omega) (by decide))
  have HS2 : Hid (Calls Tryd.prog 31 #[.string signT, .slice p5 (8 + 8 + n) c5] w4 fun e w' => e = .returned (.int .i64 (chOf r pub n f : Nat)) ∧ Below w4.heap.size w4 w') := HS
  clear ho3 ho4 ho5 hb5 hc5 hcg HS HR2 HY2 HMB
  obtain ⟨z, hz⟩ : ∃ z, z = chOf r pub n f := ⟨_, rfl⟩
  rw [← hz] at HS2
  have HZ := Lib.hid hz
  clear hz
  go_wp2_with fail
  refine HS2.out.mono ?_
  rintro e w5 ⟨rfl, hb5⟩
  have hB5 := Lib.hid (hB4.out.trans (hb5.mono hB4.out.size))
  clear hb5 HS2 hB4
  go_wp2_with fail
  go_ret
  exact ⟨by rw [← HZ.out]; rfl, hB5.out⟩

theorem nonce_cat5 (x : Int) (n : Nat) (f : Nat → Nat) : scOf nonceT (8 + n) (Sha.cat 8 (by8 (uN x)) f) = noOf x n f := by
  unfold noOf
  refine scOf_congr fun i hi => ?_
  show (if i < 8 then by8 (uN x) i else f (i - 8)) = (if i < 8 * 1 then nb8 (fun _ => x) i else f (i - 8 * 1))
  by_cases h : i < 8
  · rw [if_pos h, if_pos (by omega)]; unfold nb8; rw [show i % 8 = i by omega]
  · rw [if_neg h, if_neg (by omega)]

set_option maxHeartbeats 4000000 in
set_option maxRecDepth 100000 in
theorem r5_sign_ok (x : Nat) (h1 : 1 ≤ x) (h2 : x < 2305843009213688669) (p : Option Addr) (n c : Nat) (f : Nat → Nat) (w : World) (hb : Bytes w p n c f) (hn : n ≤ 1000) :
    Calls Tryd.prog 53 #[.int .i64 x, .slice p n c] w fun e w' => e = .returned (.tuple #[sgV (sgR x n f) (sgS x n f), .int .i64 0]) ∧ Below w.heap.size w w' := by
  have H1 := Lib.hid (fun w => r5_public_ok x h1 h2 w)
  have HB := Lib.hid hb
  have HN := Lib.hid hn
  have H4 := Lib.hid (fun w => rbase_any (sgK x n f : Int) w)
  rw [gExp4 _ (sgK_lt x n f)] at H4
  have H5 := Lib.hid (fun (W : World) (hB : Below w.heap.size w W) => r5_challenge (Gp.pw 4611686018427377339 4 x : Nat) (sgR x n f : Int) p n c f W (HB.out.below hB (Nat.le_refl _)) HN.out)
  have H6 := Lib.hid (fun w => r3_mul (sgC x n f) x (sgC_lt x n f) h2 w)
  have H7 := Lib.hid (fun w => r3_add (sgK x n f) (Gp.mu 2305843009213688669 (sgC x n f) x) (sgK_lt x n f) (Gp.mu_lt (by decide)) w)
  rw [show chOf (sgR x n f : Int) (Gp.pw 4611686018427377339 4 x : Nat) n f = sgC x n f from rfl] at H5
  rw [show (sgK x n f + Gp.mu 2305843009213688669 (sgC x n f) x) % 2305843009213688669 = sgS x n f from rfl] at H7
  rw [show Gp.pw 4611686018427377339 4 (sgK x n f) = sgR x n f from rfl] at H4
  have HK : Hid (noOf (x : Int) n f = sgK x n f) := Lib.hid rfl
  generalize Gp.mu 2305843009213688669 (sgC x n f) x = M at *
  generalize Gp.pw 4611686018427377339 4 x = P at *
  generalize sgC x n f = C at *
  generalize sgR x n f = R at *
  generalize sgS x n f = S at *
  generalize sgK x n f = K at *
  clear h1 h2 hb hn
  go_enter Tryd.func53, Tryd.ntmps53
  go_wp2_with fail
  refine (H1.out _).mono ?_
  rintro e w1 ⟨rfl, hw⟩
  subst hw
  have hV := VG.first w 0 0
  have hV0 : VG w.heap.size w 0 0 (w.alloc (.cells #[.int .i64 0, .int .i64 0] 61)) := hV
  go_wp2_with fail
  generalize w.alloc (.cells #[.int .i64 0, .int .i64 0] 61) = w1 at *
  clear hV
  refine (r5_bytes (x : Int) w1).mono ?_
  rintro e w2 ⟨v1, rfl, hr1, hb1⟩
  have hV := hV0.next hb1 (Nat.le_refl _)
  have HR1 := Lib.hid hr1
  have hsz1 := hb1.size
  have HSZ := Lib.hid (show w.heap.size < w1.heap.size ∧ w1.heap.size ≤ w2.heap.size from ⟨hV0.lt, hsz1⟩)
  have HBm := Lib.hid (HB.out.below hV.below (Nat.le_refl _))
  have HV := Lib.hid hV
  clear hV0 hb1 hr1 hsz1 hV H1
  go_wp2_with (at_builtin; refine wpList_append_b _ rfl (.tmp 25) (.tmp 26) rfl w1.heap.size _ 8 _ rfl HR1.out p n c f rfl HBm.out (by have := HN.out; omega) HSZ.out.2 ?_; intro v3 w3 ho3)
  have ho5 := ho3.out.1
  rw [bl_cat] at ho5
  have hV3 : VG w.heap.size w 0 0 w3 := ⟨HV.out.ge, HV.out.below.trans (ho3.out.2.mono (Nat.le_of_lt HSZ.out.1)), by rw [ho3.out.2.block _ HSZ.out.1]; exact HV.out.obj⟩
  obtain ⟨p5, c5, rfl, hb5, hc5⟩ := Bytes.own ho5 (fun i hi => bl_get _ _ i hi) (fun i hi => by
    unfold Sha.cat
    by_cases h : i < 8
    · rw [if_pos h]; exact by8_lt _ _
    · rw [if_neg h]; exact HB.out.byte _ (by omega))
  have hs := rscalar_any nonceT p5 (8 + n) c5 (Sha.cat 8 (by8 (uN (x : Int))) f) w3 hb5 (by have := HN.out; omega) (by decide)
  rw [nonce_cat5, HK.out] at hs
  have HS := Lib.hid hs
  have HV3 := Lib.hid hV3
  clear hs hb5 hc5 ho3 ho5 HR1 HBm HK HV HSZ hV3
  go_wp2_with fail
  refine HS.out.mono ?_
  rintro e w4 ⟨rfl, hb1⟩
  have hV4 := HV3.out.next hb1 (Nat.le_refl _)
  clear hb1 HS HV3
  go_wp2_with fail
  refine (H4.out _).mono ?_
  rintro e w5 ⟨rfl, rfl⟩
  go_wp2_with fail
  refine (H5.out _ hV4.below).mono ?_
  rintro e w6 ⟨rfl, hb1⟩
  have hV6 := hV4.next hb1 (Nat.le_refl _)
  clear hb1 hV4 H4 H5
  go_wp2_with fail
  refine (H6.out _).mono ?_
  rintro e w7 ⟨rfl, rfl⟩
  go_wp2_with fail
  refine (H7.out _).mono ?_
  rintro e w8 ⟨rfl, rfl⟩
  have hv := hV6.all
  have hz0 : w8.frozen? ⟨w.heap.size, 0, none⟩ = false := by simp [World.frozen?, hV6.obj]
  have hz1 : w8.frozen? ⟨w.heap.size, 1, none⟩ = false := by simp [World.frozen?, hV6.obj]
  clear H6 H7
  go_wp2_with fail
  have hN := hV6.store (R' := R) (S' := S)
  have hrg : World.rangeAt ((w8.setCell ⟨w.heap.size, 0, none⟩ (.int .i64 R)).setCell ⟨w.heap.size, 1, none⟩ (.int .i64 S)) w.heap.size 0 [.int .i64 R, .int .i64 S] := fun j v hv => by
    match j, hv with
    | 0, hv => cases hv; exact hN.all.1
    | 1, hv => cases hv; exact hN.all.2.1
  exact bodyPost_ret (v := .tuple #[sgV R S, .int .i64 0]) (results_cellTmp rfl rfl rfl (run_loadVar_mid _ w.heap.size 0 61 [.int .i64 R, .int .i64 S] _ hrg Tryd.underlying61 rfl (by kernel_rfl))) rfl ⟨rfl, hN.below⟩

set_option maxHeartbeats 4000000 in
set_option maxRecDepth 100000 in
theorem r5_sign_no (x : Int) (h : x < 1 ∨ 2305843009213688669 ≤ x) (p : Option Addr) (n c : Nat) (w : World) :
    Calls Tryd.prog 53 #[.int .i64 x, .slice p n c] w fun e w' => e = .returned (.tuple #[sgV 0 0, .int .i64 50]) ∧ Below w.heap.size w w' := by
  have H1 := Lib.hid (fun w => r5_public_no x h w)
  clear h
  go_enter Tryd.func53, Tryd.ntmps53
  go_wp2_with fail
  refine (H1.out _).mono ?_
  rintro e w1 ⟨rfl, hw⟩
  subst hw
  have hV := VG.first w 0 0
  have hv := hV.all
  have hN := hV.store (R' := 0) (S' := 0)
  have hN1 := Lib.hid hN
  have hrow : World.rangeAt (w.alloc (.cells #[.int .i64 0, .int .i64 0] 61)) w.heap.size 0 [.int .i64 0, .int .i64 0] := fun j v hv => by
    match j, hv with
    | 0, hv => cases hv; exact hV.all.1
    | 1, hv => cases hv; exact hV.all.2.1
  have HRW := Lib.hid hrow
  have HV := Lib.hid hV
  clear hN hv hrow hV
  go_wp2_with fail
  exact bodyPost_ret (v := .tuple #[sgV 0 0, .int .i64 50]) (results_cellTmp rfl rfl rfl (run_loadVar_mid _ w.heap.size 0 61 [.int .i64 0, .int .i64 0] _ HRW.out Tryd.underlying61 rfl (by kernel_rfl))) rfl ⟨rfl, HV.out.below⟩

theorem chk40 {a : Int} (h : Gp.isEl a = false) : Gp.gChk a = 40 := by unfold Gp.gChk; rw [h]; rfl
theorem chk0 {a : Int} (h : Gp.isEl a = true) : Gp.gChk a = 0 := by unfold Gp.gChk; rw [h]; rfl
theorem vfy_noR5 (pub R S : Int) (n : Nat) (f : Nat → Nat) (h : Gp.isEl R = false) : vfy pub R S n f = false := by
  unfold vfy Gp.gChk; rw [h, if_neg (by simp)]

set_option maxHeartbeats 4000000 in
set_option maxRecDepth 100000 in
theorem r5_verify (pub R S : Int) (p : Option Addr) (n c : Nat) (f : Nat → Nat) (w : World) (hb : Bytes w p n c f) (hn : n ≤ 1000) :
    Calls Tryd.prog 55 #[.int .i64 pub, .slice p n c, .agg #[.int .i64 R, .int .i64 S]] w fun e w' => e = .returned (.bool (vfy pub R S n f)) ∧ Below w.heap.size w w' := by
  have H1 := Lib.hid (fun w => rcheck_any pub w)
  have H2 := Lib.hid (fun w => rcheck_any R w)
  have H3 := Lib.hid (fun w => r3_scalar S w)
  have HB := Lib.hid hb
  have HN := Lib.hid hn
  clear hb hn
  cases hp : Gp.isEl pub with
  | false =>
    rw [vfy_no1 _ _ _ _ _ hp]
    rw [chk40 hp] at H1
    clear hp H2 H3
    go_enter Tryd.func55, Tryd.ntmps55
    go_wp2_with fail
    refine (H1.out _).mono ?_
    rintro e w1 ⟨rfl, hw⟩
    subst hw
    go_wp2_with fail
    go_ret
    exact ⟨rfl, (VG.first w R S).below⟩
  | true =>
    rw [chk0 hp] at H1
    cases hR : Gp.isEl R with
    | false =>
      rw [vfy_noR5 _ _ _ _ _ hR]
      rw [chk40 hR] at H2
      clear hp hR H3
      have hv := (VG.first w R S).all
      go_enter Tryd.func55, Tryd.ntmps55
      go_wp2_with fail
      refine (H1.out _).mono ?_
      rintro e w1 ⟨rfl, hw⟩
      subst hw
      go_wp2_with fail
      refine (H2.out _).mono ?_
      rintro e w1 ⟨rfl, hw⟩
      subst hw
      go_wp2_with fail
      go_ret
      exact ⟨rfl, hv.2.2.below⟩
    | true =>
      rw [chk0 hR] at H2
      cases hS : Gp.isSc S with
      | false =>
        rw [vfy_noS _ _ _ _ _ hS]
        rw [hS] at H3
        clear hp hR hS
        have hv := (VG.first w R S).all
        go_enter Tryd.func55, Tryd.ntmps55
        go_wp2_with fail
        refine (H1.out _).mono ?_
        rintro e w1 ⟨rfl, hw⟩
        subst hw
        go_wp2_with fail
        refine (H2.out _).mono ?_
        rintro e w1 ⟨rfl, hw⟩
        subst hw
        go_wp2_with fail
        refine (H3.out _).mono ?_
        rintro e w1 ⟨rfl, hw⟩
        subst hw
        go_wp2_with fail
        go_ret
        exact ⟨rfl, hv.2.2.below⟩
      | true =>
        rw [hS] at H3
        obtain ⟨a, rfl, _⟩ := Gp.isEl_nat hp
        obtain ⟨b, rfl, _⟩ := Gp.isEl_nat hR
        obtain ⟨s, rfl, hs⟩ := Gp.isSc_nat hS
        have ha := Gp.El.of hp
        have hb := Gp.El.of hR
        rw [vfy_at a b s n f ha hb s rfl hs]
        have H4 := Lib.hid (fun w => rbase_any (s : Int) w)
        rw [gExp4 _ hs] at H4
        have H5 := Lib.hid (fun (W : World) (hB : Below w.heap.size w W) => r5_challenge (a : Int) (b : Int) p n c f W (HB.out.below hB (Nat.le_refl _)) HN.out)
        have hcs : Gp.isSc (chOf (b : Int) (a : Int) n f : Nat) = true := Gp.isSc_of (scOf_lt _ _ _)
        have H6 := Lib.hid (fun w => rexp_any (a : Int) (chOf (b : Int) (a : Int) n f : Nat) w)
        rw [Gp.gExp_ok hp hcs, Int.toNat_natCast, Int.toNat_natCast] at H6
        have hw := (ha.pw (chOf (b : Int) (a : Int) n f)).is
        have H7 := Lib.hid (fun w => rmul_any (b : Int) (Gp.pw 4611686018427377339 a (chOf (b : Int) (a : Int) n f) : Nat) w)
        rw [Gp.gMul_ok hR hw, Int.toNat_natCast, Int.toNat_natCast] at H7
        rw [← beq_cast]
        generalize Gp.mu 4611686018427377339 b (Gp.pw 4611686018427377339 a (chOf (b : Int) (a : Int) n f)) = r at *
        generalize Gp.pw 4611686018427377339 a (chOf (b : Int) (a : Int) n f) = e1 at *
        generalize Gp.pw 4611686018427377339 4 s = l at *
        generalize chOf (b : Int) (a : Int) n f = C at *
        clear hp hR hS ha hb hs hcs hw
        have hV := VG.first w b s
        have hv := hV.all
        go_enter Tryd.func55, Tryd.ntmps55
        go_wp2_with fail
        refine (H1.out _).mono ?_
        rintro e w1 ⟨rfl, hw⟩
        subst hw
        go_wp2_with fail
        refine (H2.out _).mono ?_
        rintro e w1 ⟨rfl, hw⟩
        subst hw
        go_wp2_with fail
        refine (H3.out _).mono ?_
        rintro e w1 ⟨rfl, hw⟩
        subst hw
        go_wp2_with fail
        refine (H4.out _).mono ?_
        rintro e w1 ⟨rfl, hw⟩
        subst hw
        go_wp2_with fail
        refine (H5.out _ hV.below).mono ?_
        rintro e w2 ⟨rfl, hb1⟩
        have hV2 := hV.next hb1 (Nat.le_refl _)
        clear hv hb1
        have hv := hV2.all
        go_wp2_with fail
        refine (H6.out _).mono ?_
        rintro e w3 ⟨rfl, hw⟩
        subst hw
        go_wp2_with fail
        refine (H7.out _).mono ?_
        rintro e w4 ⟨rfl, hw⟩
        subst hw
        go_wp2_with fail
        go_ret
        exact ⟨rfl, hV2.below⟩
end Go.Proofs.YtelikpkekloffaaDoor
