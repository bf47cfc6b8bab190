/- The law PakeAgree, walked: whatever its arguments, it returns true. -/
import Derived.Test.YtelikpkekloffaaDoorSane10
namespace Go.Proofs.YtelikpkekloffaaDoor
open Go.RowKit

set_option maxRecDepth 100000 in
set_option maxHeartbeats 4000000 in
theorem pakeAgree_any (n1 n2 n3 : Int) (w : World) (hT : Tabs w) :
    Calls Tryd.prog 9 #[.int .i64 n1, .int .i64 n2, .int .i64 n3] w fun e w' => e = .returned (.bool true) ∧ Below w.heap.size w w' := by
  have X0 := Lib.hid (fun w hT => sane10 w hT)
  have X1 := Lib.hid (fun w => side_any 0 n1 n2 w)
  have X2 := Lib.hid (fun w => side_any 1 n1 n3 w)
  obtain ⟨r, hr⟩ : ∃ r, r = sdR 0 := ⟨_, rfl⟩
  obtain ⟨q, hq⟩ : ∃ q, q = sdR 1 := ⟨_, rfl⟩
  obtain ⟨c, hc⟩ : ∃ c, c = sdC n1 := ⟨_, rfl⟩
  obtain ⟨x, hx⟩ : ∃ x, x = sdX n2 := ⟨_, rfl⟩
  obtain ⟨y, hy⟩ : ∃ y, y = sdX n3 := ⟨_, rfl⟩
  rw [← hr, ← hc, ← hx] at X1
  rw [← hq, ← hc, ← hy] at X2
  have r1 : r = 1 := by rw [hr]; decide
  have q2 : q = 2 := by rw [hq]; decide
  have c1 : c < 1000000 := by rw [hc]; exact sdC_lt _
  have x1 : 1 ≤ x ∧ x < 2305843009213688669 := by rw [hx]; exact sdX_ok _
  have y1 : 1 ≤ y ∧ y < 2305843009213688669 := by rw [hy]; exact sdX_ok _
  clear hr hq hc hx hy
  have P1 := Lib.hid (fun (W : World) (hb : Below w.heap.size w W) => ppoint_ok r c x (.inl r1) c1 x1.1 x1.2 W (hT.below hb))
  have P2 := Lib.hid (fun (W : World) (hb : Below w.heap.size w W) => ppoint_ok q c y (.inr q2) c1 y1.1 y1.2 W (hT.below hb))
  have K1 := Lib.hid (fun (W : World) (hb : Below w.heap.size w W) => pshared_ok r c x (.inl r1) c1 x1.1 x1.2 (ppOf q c y) (pp_el _ _ _) W (hT.below hb))
  have K2 := Lib.hid (fun (W : World) (hb : Below w.heap.size w W) => pshared_ok q c y (.inr q2) c1 y1.1 y1.2 (ppOf r c x) (pp_el _ _ _) W (hT.below hb))
  have R1 := Lib.hid (fun (W : World) (hb : Below w.heap.size w W) => pproved_ok r c x (.inl r1) c1 x1.1 x1.2 (ppOf q c y) (pp_el _ _ _) W (hT.below hb))
  have R2 := Lib.hid (fun (W : World) (hb : Below w.heap.size w W) => pproved_ok q c y (.inr q2) c1 y1.1 y1.2 (ppOf r c x) (pp_el _ _ _) W (hT.below hb))
  have A1 := Lib.hid (fun (W : World) (hb : Below w.heap.size w W) => paccept_ok r c x (.inl r1) c1 x1.1 x1.2 (ppOf q c y) (pp_el _ _ _) (prOf (keyOf q c y (ppOf r c x)) q) (pr_lt _ _) W (hT.below hb))
  have A2 := Lib.hid (fun (W : World) (hb : Below w.heap.size w W) => paccept_ok q c y (.inr q2) c1 y1.1 y1.2 (ppOf r c x) (pp_el _ _ _) (prOf (keyOf r c x (ppOf q c y)) r) (pr_lt _ _) W (hT.below hb))
  have C1 := Lib.hid (fun w => checkE (pp_el r c x) w)
  have C2 := Lib.hid (fun w => checkE (pp_el q c y) w)
  have ek : keyOf r c x (ppOf q c y) = keyOf q c y (ppOf r c x) := by rw [r1, q2]; exact key_agree c x y
  have e1 : 3 - r = q := by omega
  have e2 : 3 - q = r := by omega
  rw [ek, e1, eqB_self] at A1
  rw [ek, e2, eqB_self] at A2
  rw [ek] at K1 R1
  have kl := key_lt q c y (ppOf r c x)
  unfold d32 at K1 K2 R1 R2 A1 A2
  generalize keyOf q c y (ppOf r c x) = k at *
  generalize prOf k q = p at *
  generalize prOf k r = o at *
  generalize ppOf r c x = A at *
  generalize ppOf q c y = B at *
  have HQ := eqB_self k
  have KL := Lib.hid kl
  clear r1 q2 c1 x1 y1 ek e1 e2 kl
  have HT := Lib.hid hT
  clear hT
  go_enter Tryd.func9, Tryd.ntmps9
  go_wp2_with fail
  refine (X0.out _ (HT.out.below (Below.refl _ _))).mono ?_
  rintro e w1 ⟨rfl, hb1⟩
  have H1 := Lib.hid ((Hold.nil w).next hb1 (Nat.le_refl _))
  clear hb1 X0
  go_wp2_with fail
  refine (X1.out _).mono ?_
  rintro e w2 ⟨rfl, hb1⟩
  have H2 := Lib.hid (H1.out.next hb1 (Nat.le_refl _))
  clear hb1 H1 X1
  go_wp2_with fail
  refine (X2.out _).mono ?_
  rintro e w3 ⟨rfl, hb1⟩
  have H3 := Lib.hid (H2.out.next hb1 (Nat.le_refl _))
  clear hb1 H2 X2
  go_upto_region 4 with fail
  have h4 := ((H3.out.addSide r c x).addSide q c y)
  rw [alloc_size] at h4
  have H4 := Lib.hid h4
  clear h4 H3
  generalize (w3.alloc (.cells #[.int .i64 r, .int .i64 c, .int .i64 x] 24)).alloc (.cells #[.int .i64 q, .int .i64 c, .int .i64 y] 24) = w4 at *
  have hs_b := H4.out.side (.head _)
  have hs_a := H4.out.side (.tail _ (.head _))
  go_wp2_with fail
  refine (P1.out _ H4.out.below).mono ?_
  rintro e w5 ⟨rfl, hb1⟩
  have H5 := Lib.hid (H4.out.next hb1 (Nat.le_refl _))
  clear hs_b hs_a
  clear hb1 H4 P1
  have hs_b := H5.out.side (.head _)
  have hs_a := H5.out.side (.tail _ (.head _))
  go_wp2_with fail
  refine (P2.out _ H5.out.below).mono ?_
  rintro e w6 ⟨rfl, hb1⟩
  have H6 := Lib.hid (H5.out.next hb1 (Nat.le_refl _))
  clear hs_b hs_a
  clear hb1 H5 P2
  have hs_b := H6.out.side (.head _)
  have hs_a := H6.out.side (.tail _ (.head _))
  go_wp2_with fail
  refine (K1.out _ H6.out.below).mono ?_
  rintro e w7 ⟨rfl, hb1⟩
  have H7 := Lib.hid (H6.out.next hb1 (Nat.le_refl _))
  clear hs_b hs_a
  clear hb1 H6 K1
  have hs_b := H7.out.side (.head _)
  have hs_a := H7.out.side (.tail _ (.head _))
  go_upto_region 7 with first
    | (refine wpList_allocK rfl rfl ?_; intro u1 hu1)
    | (refine wpList_storeK rfl (.tmp 13) (.tmp 47) rfl w7.heap.size k hu1.out.1 hu1.out.2.1 rfl rfl ?_; intro w8 hu2)
  have H8 := Lib.hid (H7.out.addDig hu2.out.1 hu2.out.2)
  clear hs_b hs_a
  clear hu1 hu2 H7
  generalize w7.heap.size = B8 at *
  clear u1
  have hs_b := H8.out.side (.tail _ (.head _))
  have hs_a := H8.out.side (.tail _ (.tail _ (.head _)))
  go_wp2_with fail
  refine (K2.out _ H8.out.below).mono ?_
  rintro e w9 ⟨rfl, hb1⟩
  have H9 := Lib.hid (H8.out.next hb1 (Nat.le_refl _))
  clear hs_b hs_a
  clear hb1 H8 K2
  have hs_b := H9.out.side (.tail _ (.head _))
  have hs_a := H9.out.side (.tail _ (.tail _ (.head _)))
  go_upto_region 8 with first
    | (refine wpList_allocK rfl rfl ?_; intro u1 hu1)
    | (refine wpList_storeK rfl (.tmp 15) (.tmp 53) rfl w9.heap.size k hu1.out.1 hu1.out.2.1 rfl rfl ?_; intro w10 hu2)
  have H10 := Lib.hid (H9.out.addDig hu2.out.1 hu2.out.2)
  clear hs_b hs_a
  clear hu1 hu2 H9
  generalize w9.heap.size = B10 at *
  clear u1
  have hs_b := H10.out.side (.tail _ (.tail _ (.head _)))
  have hs_a := H10.out.side (.tail _ (.tail _ (.tail _ (.head _))))
  go_wp2_with fail
  refine (R1.out _ H10.out.below).mono ?_
  rintro e w11 ⟨rfl, hb1⟩
  have H11 := Lib.hid (H10.out.next hb1 (Nat.le_refl _))
  clear hs_b hs_a
  clear hb1 H10 R1
  have hs_b := H11.out.side (.tail _ (.tail _ (.head _)))
  have hs_a := H11.out.side (.tail _ (.tail _ (.tail _ (.head _))))
  go_upto_region 9 with first
    | (refine wpList_alloc32 rfl rfl ?_; intro u1 hu1)
    | (refine wpList_storeD rfl (.tmp 17) (.tmp 59) rfl w11.heap.size o hu1.out.1 hu1.out.2.1 rfl rfl ?_; intro w12 hu2)
  have H12 := Lib.hid (H11.out.addDig hu2.out.1 hu2.out.2)
  clear hs_b hs_a
  clear hu1 hu2 H11
  generalize w11.heap.size = B12 at *
  clear u1
  have hs_b := H12.out.side (.tail _ (.tail _ (.tail _ (.head _))))
  have hs_a := H12.out.side (.tail _ (.tail _ (.tail _ (.tail _ (.head _)))))
  go_wp2_with fail
  refine (R2.out _ H12.out.below).mono ?_
  rintro e w13 ⟨rfl, hb1⟩
  have H13 := Lib.hid (H12.out.next hb1 (Nat.le_refl _))
  clear hs_b hs_a
  clear hb1 H12 R2
  have hs_b := H13.out.side (.tail _ (.tail _ (.tail _ (.head _))))
  have hs_a := H13.out.side (.tail _ (.tail _ (.tail _ (.tail _ (.head _)))))
  go_upto_region 10 with first
    | (refine wpList_alloc32 rfl rfl ?_; intro u1 hu1)
    | (refine wpList_storeD rfl (.tmp 19) (.tmp 65) rfl w13.heap.size p hu1.out.1 hu1.out.2.1 rfl rfl ?_; intro w14 hu2)
  have H14 := Lib.hid (H13.out.addDig hu2.out.1 hu2.out.2)
  clear hs_b hs_a
  clear hu1 hu2 H13
  generalize w13.heap.size = B14 at *
  clear u1
  have hs_b := H14.out.side (.tail _ (.tail _ (.tail _ (.tail _ (.head _)))))
  have hs_a := H14.out.side (.tail _ (.tail _ (.tail _ (.tail _ (.tail _ (.head _))))))
  go_wp2_with first | (refine wpList_loadD rfl (.tmp 19) rfl _ _ (H14.out.dig (.head _)) rfl ?_)
  refine (A1.out _ H14.out.below).mono ?_
  rintro e w15 ⟨rfl, hb1⟩
  have H15 := Lib.hid (H14.out.next hb1 (Nat.le_refl _))
  clear hs_b hs_a
  clear hb1 H14 A1
  have hs_b := H15.out.side (.tail _ (.tail _ (.tail _ (.tail _ (.head _)))))
  have hs_a := H15.out.side (.tail _ (.tail _ (.tail _ (.tail _ (.tail _ (.head _))))))
  go_wp2_with first | (refine wpList_loadD rfl (.tmp 17) rfl _ _ (H15.out.dig (.tail _ (.head _))) rfl ?_)
  refine (A2.out _ H15.out.below).mono ?_
  rintro e w16 ⟨rfl, hb1⟩
  have H16 := Lib.hid (H15.out.next hb1 (Nat.le_refl _))
  clear hs_b hs_a
  clear hb1 H15 A2
  have hs_b := H16.out.side (.tail _ (.tail _ (.tail _ (.tail _ (.head _)))))
  have hs_a := H16.out.side (.tail _ (.tail _ (.tail _ (.tail _ (.tail _ (.head _))))))
  go_wp2_with fail
  refine (C1.out _).mono ?_
  rintro e w17 ⟨rfl, hb1⟩
  have H17 := Lib.hid (H16.out.next hb1 (Nat.le_refl _))
  clear hs_b hs_a
  clear hb1 H16 C1
  have hs_b := H17.out.side (.tail _ (.tail _ (.tail _ (.tail _ (.head _)))))
  have hs_a := H17.out.side (.tail _ (.tail _ (.tail _ (.tail _ (.tail _ (.head _))))))
  go_wp2_with fail
  refine (C2.out _).mono ?_
  rintro e w18 ⟨rfl, hb1⟩
  have H18 := Lib.hid (H17.out.next hb1 (Nat.le_refl _))
  clear hs_b hs_a
  clear hb1 H17 C2
  have hs_b := H18.out.side (.tail _ (.tail _ (.tail _ (.tail _ (.head _)))))
  have hs_a := H18.out.side (.tail _ (.tail _ (.tail _ (.tail _ (.tail _ (.head _))))))
  go_wp2_with first | (refine wpList_loadKg (by rfl) (.tmp 13) rfl _ _ (H18.out.dig (.tail _ (.tail _ (.tail _ (.head _))))) rfl ?_) | (refine wpList_loadKg (by rfl) (.tmp 15) rfl _ _ (H18.out.dig (.tail _ (.tail _ (.head _)))) rfl ?_) | (refine wpList_eqlK (by rfl) (.tmp 122) (.tmp 123) 37 rfl k k KL.out KL.out rfl rfl ?_)
  go_ret
  exact ⟨rfl, H18.out.below⟩
end Go.Proofs.YtelikpkekloffaaDoor
