/- The reference of layer 10: Eight, Mask, Password, masked, Element, Check, Point, walked. -/
import Derived.Test.YtelikpkekloffaaDoorHold
import Derived.Test.YtelikpkekloffaaDoorRefH
import Derived.Lib.SlBytesConst
namespace Go.Proofs.YtelikpkekloffaaDoor
open Go.RowKit

set_option maxHeartbeats 4000000 in
set_option maxRecDepth 100000 in
theorem r10_eight (V : Nat) (hV : V < 9223372036854775808) (w : World) :
    Calls Tryd.prog 37 #[.int .i64 V] w fun e w' => ∃ r, e = .returned r ∧ w'.ownsRow w.heap.size 5 1 r 8 (bl 8 (by8 V)) ∧ Below w.heap.size w w' := by
  have bv : (V : Int) < 9223372036854775808 := by omega
  clear hV
  go_enter Tryd.func37, Tryd.ntmps37
  go_wp2_with fail
  go_loopg [3, 4] 8 (fun g x y wr => ∃ (r : Value) (j : Nat), x = r ∧ y = .int .i64 ((7 : Int) - (j : Int)) ∧ Hid (j + g = 8) ∧ Hid (wr.ownsRow w.heap.size 5 1 r j (bl j (by8 V)) ∧ Below w.heap.size w wr))
  case atStart => exact ⟨_, 0, rfl, by go_num, Lib.hid rfl, Lib.hid ⟨owns_empty w, (Below.refl _ _).alloc (Nat.le_refl _) _⟩⟩
  case round =>
    obtain ⟨r, j, rfl, rfl, hj, ho⟩ := hrel
    by_cases h8 : j < 8
    · obtain ⟨q, hq⟩ : ∃ q, q = 7 - j := ⟨_, rfl⟩
      have e7 : (7 : Int) - (j : Int) = (q : Int) := by omega
      have b7 : (q : Int) ≤ 7 := by omega
      have t2 : decide ((0 : Int) ≤ (q : Int)) = true := by rw [decide_eq_true_eq]; omega
      obtain ⟨y2, hy2⟩ : ∃ y, y = V / 2 ^ (8 * q) := ⟨_, rfl⟩
      obtain ⟨z, hz⟩ : ∃ z, z = y2 % 256 := ⟨_, rfl⟩
      have e8 : (V : Int) / 2 ^ (8 * q) = (y2 : Int) := by rw [hy2]; push_cast; rfl
      have e9 : IntKind.u8.wrap (y2 : Int) = (z : Int) := by
        rw [hz]
        simp only [IntKind.wrap, IntKind.bits, IntKind.signed]; simp
      have hzl : z < 256 := by rw [hz]; exact Nat.mod_lt _ (by decide)
      have hpad : by8 V j = z := by
        unfold by8
        rw [show 56 - 8 * j = 8 * q by omega, ← hy2, hz]
      have HPAD := Lib.hid hpad
      have HZL := Lib.hid hzl
      have H8 := Lib.hid h8
      have e6 : (q : Int) - 1 = 7 - ((j + 1 : Nat) : Int) := by omega
      have E6 := Lib.hid e6
      clear hq hz hy2 hzl hpad h8 e6
      go_wp2_with (at_builtin; refine wpList_append_b _ rfl (.tmp 10) (.tmp 16) rfl w.heap.size _ j _ rfl (ho.out.1.alloc _) _ 1 1 (fun _ => z) rfl (byte_new _ z HZL.out) (by have := H8.out; omega) (by have := ho.out.2.size; rw [alloc_size]; omega) ?_; intro v3 w3 ho3)
      have e5 : bl j (by8 V) ++ bl 1 (fun _ => z) = bl (j + 1) (by8 V) := by
        rw [← bl_succ j (by8 V), HPAD.out]
      rw [e5] at ho3
      go_roundg (8 - (j + 1))
      case rel => exact ⟨_, j + 1, rfl, by rw [E6.out], Lib.hid (by have := H8.out; omega), Lib.hid ⟨ho3.out.1, (ho.out.2.alloc ho.out.2.size _).trans ho3.out.2⟩⟩
      case measure => have := hj.out; have := H8.out; omega
    · obtain rfl : j = 8 := by have := hj.out; omega
      have t2 : decide ((0 : Int) ≤ 7 - ((8 : Nat) : Int)) = false := by decide
      clear h8
      go_wp2_with fail
      go_ret
      exact ⟨_, rfl, ho.out⟩

set_option maxHeartbeats 4000000 in
set_option maxRecDepth 100000 in
theorem r10_password (code : Nat) (hc : code < 9223372036854775808) (w : World) :
    Calls Tryd.prog 24 #[.int .i64 code] w fun e w' => e = .returned (.int .i64 (pwOf code : Nat)) ∧ Below w.heap.size w w' := by
  have HC := Lib.hid hc
  obtain ⟨z, hz⟩ : ∃ z, z = pwOf code := ⟨_, rfl⟩
  rw [← hz]
  have HZ := Lib.hid hz
  clear hc hz
  go_enter Tryd.func24, Tryd.ntmps24
  go_wp2_with fail
  refine (r10_eight code HC.out w).mono ?_
  rintro e w2 ⟨v1, rfl, hr1, hb1⟩
  obtain ⟨p5, c5, rfl, hb5, hc5⟩ := Bytes.own hr1 (fun i hi => bl_get _ _ i hi) (fun i _ => by8_lt _ _)
  have HS := Lib.hid (rscalar_any codeT p5 8 c5 (by8 code) w2 hb5 (by decide) (by decide))
  have HS2 : Hid (Calls Tryd.prog 31 #[.string codeT, .slice p5 8 c5] w2 fun e w' => e = .returned (.int .i64 (pwOf code : Nat)) ∧ Below w2.heap.size w2 w') := HS
  have HB := Lib.hid hb1
  rw [← HZ.out] at HS2
  clear hr1 hb5 hc5 HS hb1
  go_wp2_with fail
  refine HS2.out.mono ?_
  rintro e w3 ⟨rfl, hb1⟩
  have hB := Lib.hid (HB.out.trans (hb1.mono HB.out.size))
  clear hb1 HB HS2
  go_wp2_with fail
  go_ret
  exact ⟨rfl, hB.out⟩

theorem marked_bytes (w : World) (arr : Array Value) (T : TypeId) (fr : Nat × Nat) (n : Nat) (f : Nat → Nat) (h : ∀ i, i < n → arr[i]? = some (.int .u8 (f i : Int))) (hb : ∀ i, i < n → f i < 256) :
    Bytes (w.alloc (.cells arr T fr)) (some ⟨w.heap.size, 0, none⟩) n n f :=
  ⟨fun _ => ⟨_, 0, rfl, by rw [alloc_size]; omega, fun i hi => by rw [Nat.zero_add, World.cell?_alloc_mark]; exact h i hi⟩, hb, Nat.le_refl _, fun e => by cases e⟩
theorem host_bytes (w : World) : Bytes (w.alloc (.cells #[.int .u8 104, .int .u8 111, .int .u8 115, .int .u8 116] 5 (4, 5))) (some ⟨w.heap.size, 0, none⟩) 4 4 (sb ⟨#[104, 111, 115, 116]⟩) :=
  marked_bytes w _ _ _ 4 _ (fun i hi => by
    match i, hi with
    | 0, _ => rfl
    | 1, _ => rfl
    | 2, _ => rfl
    | 3, _ => rfl) fun i _ => sb_lt _ _
theorem guest_bytes (w : World) : Bytes (w.alloc (.cells #[.int .u8 103, .int .u8 117, .int .u8 101, .int .u8 115, .int .u8 116] 5 (5, 6))) (some ⟨w.heap.size, 0, none⟩) 5 5 (sb ⟨#[103, 117, 101, 115, 116]⟩) :=
  marked_bytes w _ _ _ 5 _ (fun i hi => by
    match i, hi with
    | 0, _ => rfl
    | 1, _ => rfl
    | 2, _ => rfl
    | 3, _ => rfl
    | 4, _ => rfl) fun i _ => sb_lt _ _

set_option maxHeartbeats 4000000 in
set_option maxRecDepth 100000 in
theorem r10_mask (r : Nat) (hr : r = 1 ∨ r = 2) (w : World) :
    Calls Tryd.prog 23 #[.int .i64 r] w fun e w' => e = .returned (.int .i64 (mkOf (nmOf r) : Nat)) ∧ Below w.heap.size w w' := by
  rcases hr with rfl | rfl
  · have HB := Lib.hid ((Below.refl w.heap.size w).alloc (Nat.le_refl _) (.cells #[.int .u8 104, .int .u8 111, .int .u8 115, .int .u8 116] 5 (4, 5)))
    have kc : Sem.run Tryd.prog (convert 33 33 (.slice (some ⟨w.heap.size, 0, none⟩) 4 4)) (w.alloc (.cells #[.int .u8 104, .int .u8 111, .int .u8 115, .int .u8 116] 5)) = .ok (.slice (some ⟨w.heap.size, 0, none⟩) 4 4) (w.alloc (.cells #[.int .u8 104, .int .u8 111, .int .u8 115, .int .u8 116] 5 (4, 5))) := Lib.run_convert_bytes_const w 33 5 #[.int .u8 104, .int .u8 111, .int .u8 115, .int .u8 116] 4 4 Tryd.underlying33 Tryd.underlying5
    have HS := Lib.hid (rpoint_any pakeT _ 4 4 _ _ (host_bytes w) (by decide) (by decide))
    have e : mkOf (nmOf 1) = ptOf pakeT 4 (sb ⟨#[104, 111, 115, 116]⟩) := rfl
    rw [e]
    generalize ptOf pakeT 4 (sb ⟨#[104, 111, 115, 116]⟩) = z at *
    clear e
    go_enter Tryd.func23, Tryd.ntmps23
    go_wp2_with fail
    refine HS.out.mono ?_
    rintro e w3 ⟨rfl, hb1⟩
    have hB := Lib.hid (HB.out.trans (hb1.mono HB.out.size))
    clear hb1 HB HS kc
    go_wp2_with fail
    go_ret
    exact ⟨rfl, hB.out⟩
  · have HB := Lib.hid ((Below.refl w.heap.size w).alloc (Nat.le_refl _) (.cells #[.int .u8 103, .int .u8 117, .int .u8 101, .int .u8 115, .int .u8 116] 5 (5, 6)))
    have kc : Sem.run Tryd.prog (convert 33 33 (.slice (some ⟨w.heap.size, 0, none⟩) 5 5)) (w.alloc (.cells #[.int .u8 103, .int .u8 117, .int .u8 101, .int .u8 115, .int .u8 116] 5)) = .ok (.slice (some ⟨w.heap.size, 0, none⟩) 5 5) (w.alloc (.cells #[.int .u8 103, .int .u8 117, .int .u8 101, .int .u8 115, .int .u8 116] 5 (5, 6))) := Lib.run_convert_bytes_const w 33 5 #[.int .u8 103, .int .u8 117, .int .u8 101, .int .u8 115, .int .u8 116] 5 5 Tryd.underlying33 Tryd.underlying5
    have HS := Lib.hid (rpoint_any pakeT _ 5 5 _ _ (guest_bytes w) (by decide) (by decide))
    have e : mkOf (nmOf 2) = ptOf pakeT 5 (sb ⟨#[103, 117, 101, 115, 116]⟩) := rfl
    rw [e]
    generalize ptOf pakeT 5 (sb ⟨#[103, 117, 101, 115, 116]⟩) = z at *
    clear e
    go_enter Tryd.func23, Tryd.ntmps23
    go_wp2_with fail
    refine HS.out.mono ?_
    rintro e w3 ⟨rfl, hb1⟩
    have hB := Lib.hid (HB.out.trans (hb1.mono HB.out.size))
    clear hb1 HB HS kc
    go_wp2_with fail
    go_ret
    exact ⟨rfl, hB.out⟩
theorem gExp4' (k : Nat) (hk : k < 2305843009213688669) : Gp.gExp 4 (k : Int) = (((Gp.pw 4611686018427377339 4 k : Nat) : Int), 0) := by
  rw [Gp.gExp_ok Gp.el4 (Gp.isSc_of hk), Int.toNat_natCast, show (4 : Int).toNat = 4 from rfl]
theorem rexpE {a k : Nat} (ha : Gp.El a) (hk : k < 2305843009213688669) {r : Nat} (hr : Gp.pw 4611686018427377339 a k = r) (w : World) :
    Calls Tryd.prog 74 #[.int .i64 a, .int .i64 k] w fun e w' => e = .returned (.tuple #[.int .i64 r, .int .i64 0]) ∧ w' = w := by
  have c := rexp_any (a : Int) (k : Int) w
  rw [Gp.gExp_ok ha.is (Gp.isSc_of hk), Int.toNat_natCast, Int.toNat_natCast, hr] at c
  exact c
theorem rbaseE {k : Nat} (hk : k < 2305843009213688669) {r : Nat} (hr : Gp.pw 4611686018427377339 4 k = r) (w : World) :
    Calls Tryd.prog 77 #[.int .i64 k] w fun e w' => e = .returned (.tuple #[.int .i64 r, .int .i64 0]) ∧ w' = w := by
  have c := rbase_any (k : Int) w
  rw [gExp4' _ hk, hr] at c
  exact c
theorem rinvE {a : Nat} (ha : Gp.El a) {r : Nat} (hr : Gp.pw 4611686018427377339 a 2305843009213688668 = r) (w : World) :
    Calls Tryd.prog 71 #[.int .i64 a] w fun e w' => e = .returned (.tuple #[.int .i64 r, .int .i64 0]) ∧ w' = w := by
  have c := rinv_any (a : Int) w
  rw [gExp_inv_ok ha.is, Int.toNat_natCast, hr] at c
  exact c
theorem rmulE {a b : Nat} (ha : Gp.El a) (hb : Gp.El b) {r : Nat} (hr : Gp.mu 4611686018427377339 a b = r) (w : World) :
    Calls Tryd.prog 73 #[.int .i64 a, .int .i64 b] w fun e w' => e = .returned (.tuple #[.int .i64 r, .int .i64 0]) ∧ w' = w := by
  have c := rmul_any (a : Int) (b : Int) w
  rw [Gp.gMul_ok ha.is hb.is, Int.toNat_natCast, Int.toNat_natCast, hr] at c
  exact c

set_option maxHeartbeats 4000000 in
set_option maxRecDepth 100000 in
theorem r10_masked (r c : Nat) (hr : r = 1 ∨ r = 2) (hc : c < 1000000) (w : World) :
    Calls Tryd.prog 72 #[.int .i64 r, .int .i64 c] w fun e w' => e = .returned (.int .i64 (maOf (nmOf r) c : Nat)) ∧ Below w.heap.size w w' := by
  have M1 := Lib.hid (fun w => r10_mask r hr w)
  have M2 := Lib.hid (fun w => r10_password c (by omega) w)
  have M3 := Lib.hid (fun w => rexpE (mk_el (nmOf r)) (pwOf_lt c) (r := maOf (nmOf r) c) rfl w)
  generalize maOf (nmOf r) c = ma at *
  generalize mkOf (nmOf r) = mk at *
  generalize pwOf c = k at *
  clear hr hc
  go_enter Tryd.func72, Tryd.ntmps72
  go_wp2_with fail
  refine (M1.out _).mono ?_
  rintro e w1 ⟨rfl, hB⟩
  go_wp2_with fail
  refine (M2.out _).mono ?_
  rintro e w2 ⟨rfl, hb1⟩
  replace hB := Lib.hid (hB.trans (hb1.mono hB.size))
  clear hb1
  go_wp2_with fail
  refine (M3.out _).mono ?_
  rintro e w3 ⟨rfl, rfl⟩
  go_wp2_with fail
  go_ret
  exact ⟨rfl, hB.out⟩

set_option maxHeartbeats 4000000 in
set_option maxRecDepth 100000 in
theorem r10_element (r c x : Nat) (hr : r = 1 ∨ r = 2) (hc : c < 1000000) (hx : x < 2305843009213688669) (peer : Nat) (hp : Gp.El peer) (w : World) :
    Calls Tryd.prog 36 #[.agg #[.int .i64 r, .int .i64 c, .int .i64 x], .int .i64 peer] w fun e w' => e = .returned (.int .i64 (shOf r c x peer : Nat)) ∧ Below w.heap.size w w' := by
  obtain ⟨q, hq⟩ : ∃ q, q = 3 - r := ⟨_, rfl⟩
  have e3 : (3 : Int) - (r : Int) = (q : Int) := by omega
  have eW : IntKind.i64.wrap (q : Int) = (q : Int) := by rw [IntKind.wrap_i64]; omega
  have M1 := Lib.hid (fun w => r10_masked q c (by omega) hc w)
  have M2 := Lib.hid (fun w => rinvE (ma_el (nmOf q) c) rfl w)
  have hI : Gp.El (Gp.pw 4611686018427377339 (maOf (nmOf q) c) 2305843009213688668) := (ma_el _ _).pw _
  have M3 := Lib.hid (fun w => rmulE hp hI rfl w)
  have M4 := Lib.hid (fun w => rexpE (hp.mu hI) hx (r := shOf r c x peer) (by rw [shOf, ← hq]) w)
  have br : (r : Int) ≤ 2 := by omega
  have bq : (q : Int) ≤ 2 := by omega
  clear hr hc hx hp hI hq
  generalize shOf r c x peer = z at *
  generalize Gp.mu 4611686018427377339 peer (Gp.pw 4611686018427377339 (maOf (nmOf q) c) 2305843009213688668) = bare at *
  generalize Gp.pw 4611686018427377339 (maOf (nmOf q) c) 2305843009213688668 = inv at *
  generalize maOf (nmOf q) c = ma at *
  have hG := (Hold.nil w).addSide r c x
  have hS := hG.side (.head _)
  go_enter Tryd.func36, Tryd.ntmps36
  go_upto_region 1 with fail
  generalize w.alloc (.cells #[.int .i64 r, .int .i64 c, .int .i64 x] 24) = w1 at *
  have HG := Lib.hid hG
  clear hG
  go_wp2_with fail
  refine (M1.out _).mono ?_
  rintro e w2 ⟨rfl, hb1⟩
  have HG2 := Lib.hid (HG.out.next hb1 (Nat.le_refl _))
  clear hb1 hS HG M1
  have hS := HG2.out.side (.head _)
  go_wp2_with fail
  refine (M2.out _).mono ?_
  rintro e w3 ⟨rfl, rfl⟩
  go_wp2_with fail
  refine (M3.out _).mono ?_
  rintro e w3 ⟨rfl, rfl⟩
  go_wp2_with fail
  refine (M4.out _).mono ?_
  rintro e w3 ⟨rfl, rfl⟩
  go_wp2_with fail
  go_ret
  exact ⟨rfl, HG2.out.below⟩

set_option maxHeartbeats 4000000 in
set_option maxRecDepth 100000 in
theorem r10_check (r c x : Int) (w : World) :
    Calls Tryd.prog 42 #[.agg #[.int .i64 r, .int .i64 c, .int .i64 x]] w fun e w' => e = .returned (.int .i64 (pChk r c x)) ∧ Below w.heap.size w w' := by
  have hG := (Hold.nil w).addSide r c x
  have hS := hG.side (.head _)
  have HG := Lib.hid hG
  clear hG
  go_enter Tryd.func42, Tryd.ntmps42
  go_wp2_with fail
  all_goals
    go_ret
    refine ⟨?_, HG.out.below⟩
    first
      | (rw [pChk_ok (by have h : r = 1 ∨ r = 2 := by omega
                         rcases h with rfl | rfl <;> decide) (by omega) (by omega) (by omega) (by omega)]; rfl)
      | (rw [pChk_no (fun h1 h2 h3 h4 h5 => by
          simp only [Bool.or_eq_true, beq_iff_eq] at h1
          omega)]; rfl)

set_option maxHeartbeats 4000000 in
set_option maxRecDepth 100000 in
theorem r10_point_no (r c x : Int) (h : okSide r c x = false) (w : World) :
    Calls Tryd.prog 40 #[.agg #[.int .i64 r, .int .i64 c, .int .i64 x]] w fun e w' => e = .returned (.tuple #[.int .i64 0, .int .i64 100]) ∧ Below w.heap.size w w' := by
  have HC := Lib.hid (fun w => r10_check r c x w)
  rw [pChk_bad h] at HC
  clear h
  have hG := (Hold.nil w).addSide r c x
  have hS := hG.side (.head _)
  go_enter Tryd.func40, Tryd.ntmps40
  go_upto_region 1 with fail
  generalize w.alloc (.cells #[.int .i64 r, .int .i64 c, .int .i64 x] 24) = w1 at *
  have HG := Lib.hid hG
  clear hG
  go_wp2_with fail
  refine (HC.out _).mono ?_
  rintro e w2 ⟨rfl, hb1⟩
  have HG2 := Lib.hid (HG.out.next hb1 (Nat.le_refl _))
  clear hb1 hS HG HC
  go_wp2_with fail
  go_ret2
  exact ⟨rfl, HG2.out.below⟩

set_option maxHeartbeats 4000000 in
set_option maxRecDepth 100000 in
theorem r10_point_ok (r c x : Nat) (hr : r = 1 ∨ r = 2) (hc : c < 1000000) (h1 : 1 ≤ x) (h2 : x < 2305843009213688669) (w : World) :
    Calls Tryd.prog 40 #[.agg #[.int .i64 r, .int .i64 c, .int .i64 x]] w fun e w' => e = .returned (.tuple #[.int .i64 (ppOf r c x : Nat), .int .i64 0]) ∧ Below w.heap.size w w' := by
  have HC := Lib.hid (fun w => r10_check r c x w)
  rw [ok_of hr hc h1 h2] at HC
  have M1 := Lib.hid (fun w => rbaseE h2 rfl w)
  have M2 := Lib.hid (fun w => r10_masked r c hr hc w)
  have M3 := Lib.hid (fun w => rmulE (Gp.el_four.pw x) (ma_el (nmOf r) c) (r := ppOf r c x) rfl w)
  clear hr hc h1 h2
  generalize ppOf r c x = z at *
  generalize Gp.pw 4611686018427377339 4 x = p4 at *
  generalize maOf (nmOf r) c = ma at *
  have hG := (Hold.nil w).addSide r c x
  have hS := hG.side (.head _)
  go_enter Tryd.func40, Tryd.ntmps40
  go_upto_region 1 with fail
  generalize w.alloc (.cells #[.int .i64 r, .int .i64 c, .int .i64 x] 24) = w1 at *
  have HG := Lib.hid hG
  clear hG
  go_wp2_with fail
  refine (HC.out _).mono ?_
  rintro e w2 ⟨rfl, hb1⟩
  have HG2 := Lib.hid (HG.out.next hb1 (Nat.le_refl _))
  clear hb1 hS HG HC
  have hS := HG2.out.side (.head _)
  go_wp2_with fail
  refine (M1.out _).mono ?_
  rintro e w3 ⟨rfl, rfl⟩
  go_wp2_with fail
  refine (M2.out _).mono ?_
  rintro e w4 ⟨rfl, hb1⟩
  have HG3 := Lib.hid (HG2.out.next hb1 (Nat.le_refl _))
  clear hb1 hS HG2 M1 M2
  go_wp2_with fail
  refine (M3.out _).mono ?_
  rintro e w5 ⟨rfl, rfl⟩
  go_wp2_with fail
  go_ret2
  exact ⟨rfl, HG3.out.below⟩
end Go.Proofs.YtelikpkekloffaaDoor
