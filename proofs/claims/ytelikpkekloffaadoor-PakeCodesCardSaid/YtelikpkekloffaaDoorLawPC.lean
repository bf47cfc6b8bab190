/- The law PakeCodes, walked: whatever its arguments, it returns true. -/
import Derived.Test.YtelikpkekloffaaDoorSane10
import Derived.Test.YtelikpkekloffaaDoorRef10
namespace Go.Proofs.YtelikpkekloffaaDoor
open Go.RowKit

set_option maxHeartbeats 4000000 in
set_option maxRecDepth 100000 in
theorem power_ok (a x y t : Nat) (ha : Gp.El a) (hx : x < 2305843009213688669) (hy : y < 2305843009213688669) (ht : t < 2305843009213688669) (w : World) :
    Calls Tryd.prog 35 #[.int .i64 a, .int .i64 x, .int .i64 y, .int .i64 t] w fun e w' =>
      e = .returned (.tuple #[.int .i64 (Gp.pw 4611686018427377339 a (Gp.mu 2305843009213688669 ((x + (2305843009213688669 - y)) % 2305843009213688669) t) : Nat), .bool true]) ∧ Below w.heap.size w w' := by
  have M1 := Lib.hid (fun w => fsub_ok x y hx hy w)
  have M2 := Lib.hid (fun w => fmul_ok ((x + (2305843009213688669 - y)) % 2305843009213688669) t (Nat.mod_lt _ (by decide)) ht w)
  have M3 := Lib.hid (fun w => expE ha (Gp.mu_lt (a := (x + (2305843009213688669 - y)) % 2305843009213688669) (b := t) (show 0 < 2305843009213688669 by decide)) rfl w)
  generalize Gp.pw 4611686018427377339 a (Gp.mu 2305843009213688669 ((x + (2305843009213688669 - y)) % 2305843009213688669) t) = z at *
  generalize Gp.mu 2305843009213688669 ((x + (2305843009213688669 - y)) % 2305843009213688669) t = m at *
  generalize (x + (2305843009213688669 - y)) % 2305843009213688669 = d at *
  clear ha hx hy ht
  go_enter Tryd.func35, Tryd.ntmps35
  go_wp2_with fail
  refine (M1.out _).mono ?_
  rintro e w1 ⟨rfl, hB⟩
  go_wp2_with fail
  refine (M2.out _).mono ?_
  rintro e w2 ⟨rfl, hb1⟩
  replace hB := hB.trans (hb1.mono hB.size)
  clear hb1
  go_wp2_with fail
  refine (M3.out _).mono ?_
  rintro e w3 ⟨rfl, hb1⟩
  replace hB := hB.trans (hb1.mono hB.size)
  clear hb1
  go_wp2_with fail
  go_ret2
  exact ⟨rfl, hB⟩

/-- what a region reads of two sides, and what stands. -/
theorem Hold.six {w W W' : World} {L : List (World → Prop)} {B D b : Nat} {r c x q d y : Int}
    (h : ((W.cell? ⟨B, 0, none⟩ = some (.int .i64 r) ∧ W.cell? ⟨B, 1, none⟩ = some (.int .i64 c) ∧ W.cell? ⟨B, 2, none⟩ = some (.int .i64 x)) ∧ (W.cell? ⟨D, 0, none⟩ = some (.int .i64 q) ∧ W.cell? ⟨D, 1, none⟩ = some (.int .i64 d) ∧ W.cell? ⟨D, 2, none⟩ = some (.int .i64 y))) ∧ Hold w L W)
    (hm : SideC B r c x ∈ L) (hm2 : SideC D q d y ∈ L) (hb : Below b W W') (hD : W.heap.size ≤ b) :
    ((W'.cell? ⟨B, 0, none⟩ = some (.int .i64 r) ∧ W'.cell? ⟨B, 1, none⟩ = some (.int .i64 c) ∧ W'.cell? ⟨B, 2, none⟩ = some (.int .i64 x)) ∧ (W'.cell? ⟨D, 0, none⟩ = some (.int .i64 q) ∧ W'.cell? ⟨D, 1, none⟩ = some (.int .i64 d) ∧ W'.cell? ⟨D, 2, none⟩ = some (.int .i64 y))) ∧ Hold w L W' := by
  have h2 := h.2.next hb hD
  exact ⟨⟨h2.side hm, h2.side hm2⟩, h2⟩

theorem Bytes.kept (p : Option Addr) (n c : Nat) (f : Nat → Nat) : Kept (fun W => Bytes W p n c f) := fun _ _ _ h hb hD => h.below hb hD
theorem Hold.addBytes {w W : World} {L : List (World → Prop)} (h : Hold w L W) {p : Option Addr} {n c : Nat} {f : Nat → Nat} (hy : Bytes W p n c f) : Hold w ((fun W => Bytes W p n c f) :: L) W :=
  h.add (Below.refl W.heap.size W) (Nat.le_refl _) _ hy (Bytes.kept _ _ _ _)
theorem Hold.bytes {w W : World} {L : List (World → Prop)} (h : Hold w L W) {p : Option Addr} {n c : Nat} {f : Nat → Nat} (hm : (fun W => Bytes W p n c f) ∈ L) : Bytes W p n c f := h.ok _ hm
theorem n8_24 (a b z : Nat) (i : Nat) (h : i < 8 + 8 + 8) : Sha.cat (8 + 8) (Sha.cat 8 (by8 a) (by8 b)) (by8 z) i = n8 a b z i := by
  unfold Sha.cat n8
  by_cases h1 : i < 8
  · rw [if_pos (by omega), if_pos h1, if_pos h1, show i % 8 = i by omega]
  · by_cases h2 : i < 16
    · rw [if_pos (by omega), if_neg h1, if_neg h1, if_pos h2, show i % 8 = i - 8 by omega]
    · rw [if_neg (by omega), if_neg h1, if_neg h2, show i % 8 = i - (8 + 8) by omega]
theorem tag24 (a b z : Nat) : Sha.tagged pakeT.size (sb pakeT) (8 + 8 + 8) (Sha.cat (8 + 8) (Sha.cat 8 (by8 a) (by8 b)) (by8 z)) = Sha.tagged pakeT.size (sb pakeT) 24 (n8 a b z) :=
  funext fun i => Sha.tagged_congr (fun _ _ => rfl) (n8_24 a b z) i
theorem cat16_lt (a b : Nat) (i : Nat) : Sha.cat 8 (by8 a) (by8 b) i < 256 := by
  unfold Sha.cat
  by_cases h : i < 8
  · rw [if_pos h]; exact by8_lt _ _
  · rw [if_neg h]; exact by8_lt _ _
theorem cat24_lt (a b z : Nat) (i : Nat) : Sha.cat (8 + 8) (Sha.cat 8 (by8 a) (by8 b)) (by8 z) i < 256 := by
  show (if i < 8 + 8 then Sha.cat 8 (by8 a) (by8 b) i else by8 z (i - (8 + 8))) < 256
  by_cases h : i < 8 + 8
  · rw [if_pos h]; exact cat16_lt a b i
  · rw [if_neg h]; exact by8_lt _ _
theorem keyOf_1 (c x peer : Nat) : keyOf 1 c x peer = Sha.tagged pakeT.size (sb pakeT) 24 (n8 (ppOf 1 c x) peer (shOf 1 c x peer)) := by
  unfold keyOf; rw [if_pos rfl]
theorem keyOf_2 (c x peer : Nat) : keyOf 2 c x peer = Sha.tagged pakeT.size (sb pakeT) 24 (n8 peer (ppOf 2 c x) (shOf 2 c x peer)) := by
  unfold keyOf; rw [if_neg (by decide)]
theorem beq_of_iff {a b c d : Nat} (h : c = d ↔ a = b) : ((a : Int) == (b : Int)) = ((c : Int) == (d : Int)) := by
  rw [Bool.eq_iff_iff, beq_iff_eq, beq_iff_eq, Int.natCast_inj, Int.natCast_inj]
  exact h.symm

set_option maxRecDepth 100000 in
set_option maxHeartbeats 4000000 in
theorem pakeCodes_any (n1 n2 n3 n4 : Int) (w : World) (hT : Tabs w) :
    Calls Tryd.prog 5 #[.int .i64 n1, .int .i64 n2, .int .i64 n3, .int .i64 n4] w fun e w' => e = .returned (.bool true) ∧ Below w.heap.size w w' := by
  have X0 := Lib.hid (fun w hT => sane10 w hT)
  have X1 := Lib.hid (fun w => side_any 0 n1 n3 w)
  have X2 := Lib.hid (fun w => side_any 1 n2 n4 w)
  rw [show sdR 0 = 1 by decide] at X1
  rw [show sdR 1 = 2 by decide] at X2
  have c1 := sdC_lt n1
  have d1 := sdC_lt n2
  have x1 := sdX_ok n3
  have y1 := sdX_ok n4
  generalize sdC n1 = c at *
  generalize sdC n2 = d at *
  generalize sdX n3 = x at *
  generalize sdX n4 = y at *
  have P1 := Lib.hid (fun (W : World) (hb : Below w.heap.size w W) => ppoint_ok 1 c x (.inl rfl) c1 x1.1 x1.2 W (hT.below hb))
  have P2 := Lib.hid (fun (W : World) (hb : Below w.heap.size w W) => ppoint_ok 2 d y (.inr rfl) d1 y1.1 y1.2 W (hT.below hb))
  have K1 := Lib.hid (fun (W : World) (hb : Below w.heap.size w W) => pshared_ok 1 c x (.inl rfl) c1 x1.1 x1.2 (ppOf 2 d y) (pp_el _ _ _) W (hT.below hb))
  have K2 := Lib.hid (fun (W : World) (hb : Below w.heap.size w W) => pshared_ok 2 d y (.inr rfl) d1 y1.1 y1.2 (ppOf 1 c x) (pp_el _ _ _) W (hT.below hb))
  have U1 := Lib.hid (fun w => r10_password c (by omega) w)
  have U2 := Lib.hid (fun w => r10_password d (by omega) w)
  have M1 := Lib.hid (fun w => r10_mask 1 (.inl rfl) w)
  have M2 := Lib.hid (fun w => r10_mask 2 (.inr rfl) w)
  have Q1 := Lib.hid (fun w => power_ok (mkOf (nmOf 2)) (pwOf d) (pwOf c) x (mk_el _) (pwOf_lt _) (pwOf_lt _) x1.2 w)
  have Q2 := Lib.hid (fun w => power_ok (mkOf (nmOf 1)) (pwOf c) (pwOf d) y (mk_el _) (pwOf_lt _) (pwOf_lt _) y1.2 w)
  have Z1 := Lib.hid (fun w => r10_element 1 c x (.inl rfl) c1 x1.2 (ppOf 2 d y) (pp_el _ _ _) w)
  have Z2 := Lib.hid (fun w => r10_element 2 d y (.inr rfl) d1 y1.2 (ppOf 1 c x) (pp_el _ _ _) w)
  have hbq := beq_of_iff (codes_iff c d x y)
  rw [keyOf_1] at K1
  rw [keyOf_2] at K2
  have A8 := Lib.hid (show ppOf 1 c x < 9223372036854775808 ∧ ppOf 2 d y < 9223372036854775808 ∧ shOf 1 c x (ppOf 2 d y) < 9223372036854775808 ∧ shOf 2 d y (ppOf 1 c x) < 9223372036854775808 from by
    have h1 := (pp_el 1 c x).2.1
    have h2 := (pp_el 2 d y).2.1
    have h3 : shOf 1 c x (ppOf 2 d y) < 4611686018427377339 := Gp.pw_lt (by decide)
    have h4 : shOf 2 d y (ppOf 1 c x) < 4611686018427377339 := Gp.pw_lt (by decide)
    omega)
  generalize shOf 1 c x (ppOf 2 d y) = z at *
  generalize shOf 2 d y (ppOf 1 c x) = v at *
  generalize ppOf 1 c x = A at *
  generalize ppOf 2 d y = B at *
  generalize Gp.pw 4611686018427377339 (mkOf (nmOf 2)) (Gp.mu 2305843009213688669 ((pwOf d + (2305843009213688669 - pwOf c)) % 2305843009213688669) x) = m at *
  generalize Gp.pw 4611686018427377339 (mkOf (nmOf 1)) (Gp.mu 2305843009213688669 ((pwOf c + (2305843009213688669 - pwOf d)) % 2305843009213688669) y) = n at *
  generalize mkOf (nmOf 1) = k1 at *
  generalize mkOf (nmOf 2) = k2 at *
  generalize pwOf c = u1 at *
  generalize pwOf d = u2 at *
  rw [show (((1 : Nat) : Int)) = 1 from rfl] at X1 P1 K1 M1 Z1
  rw [show (((2 : Nat) : Int)) = 2 from rfl] at X2 P2 K2 M2 Z2
  obtain ⟨f1, hf1⟩ : ∃ f, f = Sha.tagged pakeT.size (sb pakeT) 24 (n8 A B z) := ⟨_, rfl⟩
  obtain ⟨f2, hf2⟩ : ∃ f, f = Sha.tagged pakeT.size (sb pakeT) 24 (n8 A B v) := ⟨_, rfl⟩
  rw [← hf1] at K1
  rw [← hf2] at K2
  have l1 : ∀ i, i < 32 → f1 i < 256 := fun i _ => by rw [hf1]; exact Sha.tagged_lt _ _ _ _ i
  have l2 : ∀ i, i < 32 → f2 i < 256 := fun i _ => by rw [hf2]; exact Sha.tagged_lt _ _ _ _ i
  have T1 := Lib.hid (fun (W : World) (hb : Below w.heap.size w W) (p : Option Addr) (cap : Nat) (hy : Bytes W p (8 + 8 + 8) cap (Sha.cat (8 + 8) (Sha.cat 8 (by8 A) (by8 B)) (by8 z))) (hc : cap ≤ 9223372036854775807) =>
    tagged_any pakeT p (8 + 8 + 8) cap _ W (hT.below hb) hy (by decide) (by decide) hc)
  have T2 := Lib.hid (fun (W : World) (hb : Below w.heap.size w W) (p : Option Addr) (cap : Nat) (hy : Bytes W p (8 + 8 + 8) cap (Sha.cat (8 + 8) (Sha.cat 8 (by8 A) (by8 B)) (by8 v))) (hc : cap ≤ 9223372036854775807) =>
    tagged_any pakeT p (8 + 8 + 8) cap _ W (hT.below hb) hy (by decide) (by decide) hc)
  rw [tag24, ← hf1] at T1
  rw [tag24, ← hf2] at T2
  have hkk : z = v → f1 = f2 := fun e => by rw [hf1, hf2, e]
  have HKK := Lib.hid hkk
  have HL1 := Lib.hid l1
  have HL2 := Lib.hid l2
  have he1 := eqB_self f1
  have he2 := eqB_self f2
  obtain ⟨β, hβ⟩ : ∃ β, β = ((z : Int) == (v : Int)) := ⟨_, rfl⟩
  rw [← hβ] at hbq
  have hb3 : ((z : Int) == (v : Int)) = β := hβ.symm
  have hb4 : ((z : Int) != (v : Int)) = !β := by rw [hβ]; rfl
  have HBB := Lib.hid hβ
  unfold d32 at K1 K2 T1 T2
  clear c1 d1 x1 y1 hkk l1 l2 hf1 hf2 hβ
  have HT := Lib.hid hT
  clear hT
  go_enter Tryd.func5, Tryd.ntmps5
  go_wp2_with fail
  refine (X0.out _ (HT.out.below (Below.refl _ _))).mono ?_
  rintro e w1 ⟨rfl, hb1⟩
  have H1 := Lib.hid ((Hold.nil w).next hb1 (Nat.le_refl _))
  clear hb1 X0
  go_wp2_with fail
  refine (X1.out _).mono ?_
  rintro e w2 ⟨rfl, hb1⟩
  have H2 := Lib.hid (H1.out.next hb1 (Nat.le_refl _))
  clear hb1 H1 X1
  go_wp2_with fail
  refine (X2.out _).mono ?_
  rintro e w3 ⟨rfl, hb1⟩
  have H3 := Lib.hid (H2.out.next hb1 (Nat.le_refl _))
  clear hb1 H2 X2
  go_upto_region 4 with fail
  have h4 := ((H3.out.addSide 1 c x).addSide 2 d y)
  rw [alloc_size] at h4
  have H4 := Lib.hid h4
  clear h4 H3
  generalize (w3.alloc (.cells #[.int .i64 1, .int .i64 c, .int .i64 x] 24)).alloc (.cells #[.int .i64 2, .int .i64 d, .int .i64 y] 24) = w4 at *
  have hs_b := H4.out.side (.head _)
  have hs_a := H4.out.side (.tail _ (.head _))
  go_wp2_with fail
  refine (P1.out _ H4.out.below).mono ?_
  rintro e w5 ⟨rfl, hb1⟩
  have H5 := Lib.hid (H4.out.next hb1 (Nat.le_refl _))
  clear hs_b hs_a
  clear hb1 H4 P1
  have hs_b := H5.out.side (.head _)
  have hs_a := H5.out.side (.tail _ (.head _))
  go_wp2_with fail
  refine (P2.out _ H5.out.below).mono ?_
  rintro e w6 ⟨rfl, hb1⟩
  have H6 := Lib.hid (H5.out.next hb1 (Nat.le_refl _))
  clear hs_b hs_a
  clear hb1 H5 P2
  have hs_b := H6.out.side (.head _)
  have hs_a := H6.out.side (.tail _ (.head _))
  go_wp2_with fail
  refine (K1.out _ H6.out.below).mono ?_
  rintro e w7 ⟨rfl, hb1⟩
  have H7 := Lib.hid (H6.out.next hb1 (Nat.le_refl _))
  clear hs_b hs_a
  clear hb1 H6 K1
  have hs_b := H7.out.side (.head _)
  have hs_a := H7.out.side (.tail _ (.head _))
  go_upto_region 7 with first
    | (refine wpList_allocK rfl rfl ?_; intro u1 hu1)
    | (refine wpList_storeK rfl (.tmp 15) (.tmp 52) rfl w7.heap.size f1 hu1.out.1 hu1.out.2.1 rfl rfl ?_; intro w8 hu2)
  have H8 := Lib.hid (H7.out.addDig hu2.out.1 hu2.out.2)
  clear hs_b hs_a
  clear hu1 hu2 H7
  generalize w7.heap.size = B8 at *
  clear u1
  have hs_b := H8.out.side (.tail _ (.head _))
  have hs_a := H8.out.side (.tail _ (.tail _ (.head _)))
  go_wp2_with fail
  refine (K2.out _ H8.out.below).mono ?_
  rintro e w9 ⟨rfl, hb1⟩
  have H9 := Lib.hid (H8.out.next hb1 (Nat.le_refl _))
  clear hs_b hs_a
  clear hb1 H8 K2
  have hs_b := H9.out.side (.tail _ (.head _))
  have hs_a := H9.out.side (.tail _ (.tail _ (.head _)))
  go_upto_region 8 with first
    | (refine wpList_allocK rfl rfl ?_; intro u1 hu1)
    | (refine wpList_storeK rfl (.tmp 17) (.tmp 58) rfl w9.heap.size f2 hu1.out.1 hu1.out.2.1 rfl rfl ?_; intro w10 hu2)
  have H10 := Lib.hid (H9.out.addDig hu2.out.1 hu2.out.2)
  clear hs_b hs_a
  clear hu1 hu2 H9
  generalize w9.heap.size = B10 at *
  clear u1
  have hs_b := H10.out.side (.tail _ (.tail _ (.head _)))
  have hs_a := H10.out.side (.tail _ (.tail _ (.tail _ (.head _))))
  clear hs_b hs_a
  have hS : ((w10.cell? ⟨w3.heap.size, 0, none⟩ = some (.int .i64 (1 : Int)) ∧ w10.cell? ⟨w3.heap.size, 1, none⟩ = some (.int .i64 (c : Int)) ∧ w10.cell? ⟨w3.heap.size, 2, none⟩ = some (.int .i64 (x : Int))) ∧ (w10.cell? ⟨w3.heap.size + 1, 0, none⟩ = some (.int .i64 (2 : Int)) ∧ w10.cell? ⟨w3.heap.size + 1, 1, none⟩ = some (.int .i64 (d : Int)) ∧ w10.cell? ⟨w3.heap.size + 1, 2, none⟩ = some (.int .i64 (y : Int)))) ∧ Hold w [DigC B10 f2, DigC B8 f1, SideC (w3.heap.size + 1) 2 d y, SideC w3.heap.size 1 c x] w10 := ⟨⟨H10.out.side (.tail _ (.tail _ (.tail _ (.head _)))), H10.out.side (.tail _ (.tail _ (.head _)))⟩, H10.out⟩
  clear H10
  go_upto_region 10 with fail
  go_region_held3 (fun w' => ((w'.cell? ⟨w3.heap.size, 0, none⟩ = some (.int .i64 (1 : Int)) ∧ w'.cell? ⟨w3.heap.size, 1, none⟩ = some (.int .i64 (c : Int)) ∧ w'.cell? ⟨w3.heap.size, 2, none⟩ = some (.int .i64 (x : Int))) ∧ (w'.cell? ⟨w3.heap.size + 1, 0, none⟩ = some (.int .i64 (2 : Int)) ∧ w'.cell? ⟨w3.heap.size + 1, 1, none⟩ = some (.int .i64 (d : Int)) ∧ w'.cell? ⟨w3.heap.size + 1, 2, none⟩ = some (.int .i64 (y : Int)))) ∧ Hold w [DigC B10 f2, DigC B8 f1, SideC (w3.heap.size + 1) 2 d y, SideC w3.heap.size 1 c x] w')
    (first
      | assumption
      | (refine Hold.six ?_ (.tail _ (.tail _ (.tail _ (.head _)))) (.tail _ (.tail _ (.head _))) (Below.refl _ _).drew (Nat.le_refl _); assumption)
      | (refine Hold.six ?_ (.tail _ (.tail _ (.tail _ (.head _)))) (.tail _ (.tail _ (.head _))) hb1 (Nat.le_refl _); assumption))
    (first
      | (go_at_call 24; with_reducible refine (U1.out _).mono ?_; rintro e w' ⟨rfl, hb1⟩)
      | (go_at_call 24; with_reducible refine (U2.out _).mono ?_; rintro e w' ⟨rfl, hb1⟩))
  all_goals
    rename_i hH0
    clear hS
    have hS := hH0
    clear hH0
    go_upto_region 11 with fail
    go_region_held3 (fun w' => ((w'.cell? ⟨w3.heap.size, 0, none⟩ = some (.int .i64 (1 : Int)) ∧ w'.cell? ⟨w3.heap.size, 1, none⟩ = some (.int .i64 (c : Int)) ∧ w'.cell? ⟨w3.heap.size, 2, none⟩ = some (.int .i64 (x : Int))) ∧ (w'.cell? ⟨w3.heap.size + 1, 0, none⟩ = some (.int .i64 (2 : Int)) ∧ w'.cell? ⟨w3.heap.size + 1, 1, none⟩ = some (.int .i64 (d : Int)) ∧ w'.cell? ⟨w3.heap.size + 1, 2, none⟩ = some (.int .i64 (y : Int)))) ∧ Hold w [DigC B10 f2, DigC B8 f1, SideC (w3.heap.size + 1) 2 d y, SideC w3.heap.size 1 c x] w')
      (first
        | assumption
        | (refine Hold.six ?_ (.tail _ (.tail _ (.tail _ (.head _)))) (.tail _ (.tail _ (.head _))) (Below.refl _ _).drew (Nat.le_refl _); assumption)
        | (refine Hold.six ?_ (.tail _ (.tail _ (.tail _ (.head _)))) (.tail _ (.tail _ (.head _))) hb1 (Nat.le_refl _); assumption))
      (first
        | (go_at_call 23; with_reducible refine (M2.out _).mono ?_; rintro e w' ⟨rfl, hb1⟩)
        | (go_at_call 35; with_reducible refine (Q1.out _).mono ?_; rintro e w' ⟨rfl, hb1⟩))
    rename_i hH0
    clear hS
    have hS := hH0
    clear hH0
    go_upto_region 12 with fail
    go_region_held3 (fun w' => ((w'.cell? ⟨w3.heap.size, 0, none⟩ = some (.int .i64 (1 : Int)) ∧ w'.cell? ⟨w3.heap.size, 1, none⟩ = some (.int .i64 (c : Int)) ∧ w'.cell? ⟨w3.heap.size, 2, none⟩ = some (.int .i64 (x : Int))) ∧ (w'.cell? ⟨w3.heap.size + 1, 0, none⟩ = some (.int .i64 (2 : Int)) ∧ w'.cell? ⟨w3.heap.size + 1, 1, none⟩ = some (.int .i64 (d : Int)) ∧ w'.cell? ⟨w3.heap.size + 1, 2, none⟩ = some (.int .i64 (y : Int)))) ∧ Hold w [DigC B10 f2, DigC B8 f1, SideC (w3.heap.size + 1) 2 d y, SideC w3.heap.size 1 c x] w')
      (first
        | assumption
        | (refine Hold.six ?_ (.tail _ (.tail _ (.tail _ (.head _)))) (.tail _ (.tail _ (.head _))) (Below.refl _ _).drew (Nat.le_refl _); assumption)
        | (refine Hold.six ?_ (.tail _ (.tail _ (.tail _ (.head _)))) (.tail _ (.tail _ (.head _))) hb1 (Nat.le_refl _); assumption))
      (first
        | (go_at_call 23; with_reducible refine (M1.out _).mono ?_; rintro e w' ⟨rfl, hb1⟩)
        | (go_at_call 35; with_reducible refine (Q2.out _).mono ?_; rintro e w' ⟨rfl, hb1⟩))
    rename_i hH0
    clear hS
    have hS := hH0
    clear hH0
    go_upto_region 13 with fail
    go_region_held3 (fun w' => ((w'.cell? ⟨w3.heap.size, 0, none⟩ = some (.int .i64 (1 : Int)) ∧ w'.cell? ⟨w3.heap.size, 1, none⟩ = some (.int .i64 (c : Int)) ∧ w'.cell? ⟨w3.heap.size, 2, none⟩ = some (.int .i64 (x : Int))) ∧ (w'.cell? ⟨w3.heap.size + 1, 0, none⟩ = some (.int .i64 (2 : Int)) ∧ w'.cell? ⟨w3.heap.size + 1, 1, none⟩ = some (.int .i64 (d : Int)) ∧ w'.cell? ⟨w3.heap.size + 1, 2, none⟩ = some (.int .i64 (y : Int)))) ∧ Hold w [DigC B10 f2, DigC B8 f1, SideC (w3.heap.size + 1) 2 d y, SideC w3.heap.size 1 c x] w')
      (first
        | assumption
        | (refine Hold.six ?_ (.tail _ (.tail _ (.tail _ (.head _)))) (.tail _ (.tail _ (.head _))) (Below.refl _ _).drew (Nat.le_refl _); assumption)
        | (refine Hold.six ?_ (.tail _ (.tail _ (.tail _ (.head _)))) (.tail _ (.tail _ (.head _))) hb1 (Nat.le_refl _); assumption))
      (first
        | (go_at_call 36; with_reducible refine (Z1.out _).mono ?_; rintro e w' ⟨rfl, hb1⟩)
        | (go_at_call 36; with_reducible refine (Z2.out _).mono ?_; rintro e w' ⟨rfl, hb1⟩))
    all_goals
      rename_i hH0
      have H11 := Lib.hid hH0.2
      clear hS hH0 U1 U2 M1 M2 Q1 Q2 Z1 Z2
      go_wp2_with fail
      refine (r10_eight A A8.out.1 _).mono ?_
      rintro e wa ⟨v1, rfl, hr1, hb1⟩
      have HB1 := Lib.hid hb1
      have HR1 := Lib.hid hr1
      clear hb1 hr1
      go_wp2_with fail
      refine (r10_eight B A8.out.2.1 _).mono ?_
      rintro e wb ⟨v2, rfl, hr2, hb1⟩
      obtain ⟨p2, cc2, rfl, hy2, hc2⟩ := Bytes.own hr2 (fun i hi => bl_get _ _ i hi) (fun i _ => by8_lt _ _)
      have HR2 := Lib.hid (owns_below HR1.out hb1 (Nat.le_refl _))
      have HY2 := Lib.hid hy2
      have HB2 := Lib.hid (HB1.out.trans (hb1.mono HB1.out.size))
      clear hb1 hr2 hy2 hc2 HR1 HB1
      go_upto_region 17 with (at_builtin; refine wpList_append_b _ rfl (.tmp 120) (.tmp 122) rfl _ _ 8 _ rfl HR2.out p2 8 cc2 _ rfl HY2.out (by omega) HB2.out.size ?_; intro v3 wc ho3)
      have ho5 := ho3.out.1
      rw [bl_cat] at ho5
      obtain ⟨p3, cc3, rfl, hy3, hc3⟩ := Bytes.own ho5 (fun i hi => bl_get _ _ i hi) (fun i _ => cat16_lt A B i)
      have HY3 := Lib.hid hy3
      have H12 := Lib.hid ((H11.out.next (HB2.out.trans ho3.out.2) (Nat.le_refl _)).addBytes HY3.out)
      clear ho3 ho5 hy3 hc3 HR2 HY2 HB2 HY3 H11
      have hE := Lib.hid (owns_empty wc)
      have HE2 := Lib.hid ((Below.refl wc.heap.size wc).alloc (Nat.le_refl _) (.cells #[] 5))
      have HY4 := Lib.hid ((H12.out.bytes (.head _)).below HE2.out (Nat.le_refl _))
      go_wp2_with (at_builtin; refine wpList_append_b _ rfl (.tmp 124) (.tmp 125) rfl _ _ 0 _ rfl hE.out p3 (8 + 8) cc3 _ rfl HY4.out (by omega) HE2.out.size ?_; intro v4 wd17 ho4)
      rw [List.nil_append] at ho4
      have HB4 := Lib.hid (HE2.out.trans ho4.out.2)
      refine (r10_eight z A8.out.2.2.1 _).mono ?_
      rintro e we17 ⟨v5, rfl, hr5, hb1⟩
      obtain ⟨p5, cc5, rfl, hy5, hc5⟩ := Bytes.own hr5 (fun i hi => bl_get _ _ i hi) (fun i _ => by8_lt _ _)
      have HR4 := Lib.hid (owns_below ho4.out.1 hb1 (Nat.le_refl _))
      have HY5 := Lib.hid hy5
      have HB5 := Lib.hid (HB4.out.trans (hb1.mono HB4.out.size))
      clear hb1 hr5 hy5 hc5 ho4 HB4 hE HE2 HY4
      go_wp2_with (at_builtin; refine wpList_append_b _ rfl (.tmp 126) (.tmp 128) rfl _ _ (0 + (8 + 8)) _ rfl HR4.out p5 8 cc5 _ rfl HY5.out (by omega) HB5.out.size ?_; intro v6 wf17 ho6)
      have ho7 := ho6.out.1
      rw [Nat.zero_add, bl_cat] at ho7
      obtain ⟨p7, cc7, rfl, hy7, hc7⟩ := Bytes.own ho7 (fun i hi => bl_get _ _ i hi) (fun i _ => cat24_lt A B z i)
      have HBX := Lib.hid (HB5.out.trans ho6.out.2)
      have H13 := Lib.hid (H12.out.next HBX.out (Nat.le_refl _))
      have HTG := Lib.hid (T1.out _ H13.out.below p7 cc7 hy7 hc7)
      clear ho6 ho7 hy7 hc7 HR4 HY5 HB5 HBX H12 T1
      go_wp2_with fail
      refine HTG.out.mono ?_
      rintro e w14 ⟨rfl, hb1⟩
      have H14 := Lib.hid (H13.out.next hb1 (Nat.le_refl _))
      clear hb1 HTG H13
      go_upto_region 18 with first
        | (refine wpList_alloc32 rfl rfl ?_; intro u1 hu1)
        | (refine wpList_storeD rfl (.tmp 28) (.tmp 130) rfl w14.heap.size f1 hu1.out.1 hu1.out.2.1 rfl rfl ?_; intro w15 hu2)
      have H15 := Lib.hid (H14.out.addDig hu2.out.1 hu2.out.2)
      clear hu1 hu2 H14
      generalize w14.heap.size = B15 at *
      clear u1
      have hs_b := H15.out.side (.tail _ (.tail _ (.tail _ (.tail _ (.head _)))))
      have hs_a := H15.out.side (.tail _ (.tail _ (.tail _ (.tail _ (.tail _ (.head _))))))
      clear hs_b hs_a
      skip
      have hE := Lib.hid (owns_empty w15)
      have HE2 := Lib.hid ((Below.refl w15.heap.size w15).alloc (Nat.le_refl _) (.cells #[] 5))
      have HY4 := Lib.hid ((H15.out.bytes (.tail _ (.head _))).below HE2.out (Nat.le_refl _))
      go_wp2_with (at_builtin; refine wpList_append_b _ rfl (.tmp 131) (.tmp 132) rfl _ _ 0 _ rfl hE.out p3 (8 + 8) cc3 _ rfl HY4.out (by omega) HE2.out.size ?_; intro v4 wd18 ho4)
      rw [List.nil_append] at ho4
      have HB4 := Lib.hid (HE2.out.trans ho4.out.2)
      refine (r10_eight v A8.out.2.2.2 _).mono ?_
      rintro e we18 ⟨v5, rfl, hr5, hb1⟩
      obtain ⟨p5, cc5, rfl, hy5, hc5⟩ := Bytes.own hr5 (fun i hi => bl_get _ _ i hi) (fun i _ => by8_lt _ _)
      have HR4 := Lib.hid (owns_below ho4.out.1 hb1 (Nat.le_refl _))
      have HY5 := Lib.hid hy5
      have HB5 := Lib.hid (HB4.out.trans (hb1.mono HB4.out.size))
      clear hb1 hr5 hy5 hc5 ho4 HB4 hE HE2 HY4
      go_wp2_with (at_builtin; refine wpList_append_b _ rfl (.tmp 133) (.tmp 135) rfl _ _ (0 + (8 + 8)) _ rfl HR4.out p5 8 cc5 _ rfl HY5.out (by omega) HB5.out.size ?_; intro v6 wf18 ho6)
      have ho7 := ho6.out.1
      rw [Nat.zero_add, bl_cat] at ho7
      obtain ⟨p7, cc7, rfl, hy7, hc7⟩ := Bytes.own ho7 (fun i hi => bl_get _ _ i hi) (fun i _ => cat24_lt A B v i)
      have HBX := Lib.hid (HB5.out.trans ho6.out.2)
      have H16 := Lib.hid (H15.out.next HBX.out (Nat.le_refl _))
      have HTG := Lib.hid (T2.out _ H16.out.below p7 cc7 hy7 hc7)
      clear ho6 ho7 hy7 hc7 HR4 HY5 HB5 HBX H15 T2
      go_wp2_with fail
      refine HTG.out.mono ?_
      rintro e w17 ⟨rfl, hb1⟩
      have H17 := Lib.hid (H16.out.next hb1 (Nat.le_refl _))
      clear hb1 HTG H16
      go_upto_region 19 with first
        | (refine wpList_alloc32 rfl rfl ?_; intro u1 hu1)
        | (refine wpList_storeD rfl (.tmp 29) (.tmp 137) rfl w17.heap.size f2 hu1.out.1 hu1.out.2.1 rfl rfl ?_; intro w18 hu2)
      have H18 := Lib.hid (H17.out.addDig hu2.out.1 hu2.out.2)
      clear hu1 hu2 H17
      generalize w17.heap.size = B18 at *
      clear u1
      have hs_b := H18.out.side (.tail _ (.tail _ (.tail _ (.tail _ (.tail _ (.head _))))))
      have hs_a := H18.out.side (.tail _ (.tail _ (.tail _ (.tail _ (.tail _ (.tail _ (.head _)))))))
      clear hs_b hs_a
      cases β with
      | false =>
        go_wp2_with first | (refine wpList_loadK rfl (.tmp 15) rfl _ _ (H18.out.dig (.tail _ (.tail _ (.tail _ (.tail _ (.head _)))))) rfl ?_) | (refine wpList_loadD rfl (.tmp 28) rfl _ _ (H18.out.dig (.tail _ (.head _))) rfl ?_) | (refine wpList_loadKg (by rfl) (.tmp 17) rfl _ _ (H18.out.dig (.tail _ (.tail _ (.tail _ (.head _))))) rfl ?_) | (refine wpList_loadDg (by rfl) (.tmp 29) rfl _ _ (H18.out.dig (.head _)) rfl ?_) | (refine wpList_neqDb (by rfl) (.tmp 138) (.tmp 139) 44 rfl f1 f1 HL1.out HL1.out rfl rfl false (eqB_selfN f1) ?_) | (refine wpList_neqDb (by rfl) (.tmp 142) (.tmp 143) 44 rfl f2 f2 HL2.out HL2.out rfl rfl false (eqB_selfN f2) ?_)
        go_ret
        exact ⟨rfl, H18.out.below⟩
      | true =>
        have hz := HBB.out.symm
        rw [beq_iff_eq, Int.natCast_inj] at hz
        have hff := HKK.out hz
        have he3 : eqB f1 f2 = true := by rw [hff]; exact eqB_self f2
        clear hz hff
        go_wp2_with first | (refine wpList_loadK rfl (.tmp 15) rfl _ _ (H18.out.dig (.tail _ (.tail _ (.tail _ (.tail _ (.head _)))))) rfl ?_) | (refine wpList_loadD rfl (.tmp 28) rfl _ _ (H18.out.dig (.tail _ (.head _))) rfl ?_) | (refine wpList_loadKg (by rfl) (.tmp 17) rfl _ _ (H18.out.dig (.tail _ (.tail _ (.tail _ (.head _))))) rfl ?_) | (refine wpList_loadDg (by rfl) (.tmp 29) rfl _ _ (H18.out.dig (.head _)) rfl ?_) | (refine wpList_neqDb (by rfl) (.tmp 138) (.tmp 139) 44 rfl f1 f1 HL1.out HL1.out rfl rfl false (eqB_selfN f1) ?_) | (refine wpList_neqDb (by rfl) (.tmp 142) (.tmp 143) 44 rfl f2 f2 HL2.out HL2.out rfl rfl false (eqB_selfN f2) ?_) | (refine wpList_loadKg (by rfl) (.tmp 15) rfl _ _ (H18.out.dig (.tail _ (.tail _ (.tail _ (.tail _ (.head _)))))) rfl ?_) | (refine wpList_loadKg (by rfl) (.tmp 17) rfl _ _ (H18.out.dig (.tail _ (.tail _ (.tail _ (.head _))))) rfl ?_) | (refine wpList_eqlKb (by rfl) (.tmp 150) (.tmp 151) 37 rfl f1 f2 HL1.out HL2.out rfl rfl true he3 ?_)
        go_ret
        exact ⟨rfl, H18.out.below⟩
end Go.Proofs.YtelikpkekloffaaDoor
