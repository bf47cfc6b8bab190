/- chartroomlaw10.sane of this program, walked: it returns true. -/
import Derived.Test.YtelikpkekloffaaDoorSide10
namespace Go.Proofs.YtelikpkekloffaaDoor
open Go.RowKit

set_option maxRecDepth 100000 in
set_option maxHeartbeats 4000000 in
theorem sane10 (w : World) (hT : Tabs w) :
    Calls Tryd.prog 19 #[] w fun e w' => e = .returned (.bool true) ∧ Below w.heap.size w w' := by
  have X1 := Lib.hid (fun w => side_any 0 123456 7 w)
  have X2 := Lib.hid (fun w => side_any 1 123456 11 w)
  obtain ⟨r, hr⟩ : ∃ r, r = sdR 0 := ⟨_, rfl⟩
  obtain ⟨q, hq⟩ : ∃ q, q = sdR 1 := ⟨_, rfl⟩
  obtain ⟨c, hc⟩ : ∃ c, c = sdC 123456 := ⟨_, rfl⟩
  obtain ⟨x, hx⟩ : ∃ x, x = sdX 7 := ⟨_, rfl⟩
  obtain ⟨y, hy⟩ : ∃ y, y = sdX 11 := ⟨_, rfl⟩
  rw [← hr, ← hc, ← hx] at X1
  rw [← hq, ← hc, ← hy] at X2
  have r1 : r = 1 := by rw [hr]; decide
  have q2 : q = 2 := by rw [hq]; decide
  have c1 : c < 1000000 := by rw [hc]; exact sdC_lt _
  have x1 : 1 ≤ x ∧ x < 2305843009213688669 := by rw [hx]; exact sdX_ok _
  have y1 : 1 ≤ y ∧ y < 2305843009213688669 := by rw [hy]; exact sdX_ok _
  clear hr hq hc hx hy
  have P1 := Lib.hid (fun (W : World) (hb : Below w.heap.size w W) => ppoint_ok r c x (.inl r1) c1 x1.1 x1.2 W (hT.below hb))
  have P2 := Lib.hid (fun (W : World) (hb : Below w.heap.size w W) => ppoint_ok q c y (.inr q2) c1 y1.1 y1.2 W (hT.below hb))
  have K1 := Lib.hid (fun (W : World) (hb : Below w.heap.size w W) => pshared_ok r c x (.inl r1) c1 x1.1 x1.2 (ppOf q c y) (pp_el _ _ _) W (hT.below hb))
  have K2 := Lib.hid (fun (W : World) (hb : Below w.heap.size w W) => pshared_ok q c y (.inr q2) c1 y1.1 y1.2 (ppOf r c x) (pp_el _ _ _) W (hT.below hb))
  have R2 := Lib.hid (fun (W : World) (hb : Below w.heap.size w W) => pproved_ok q c y (.inr q2) c1 y1.1 y1.2 (ppOf r c x) (pp_el _ _ _) W (hT.below hb))
  have A1 := Lib.hid (fun (W : World) (hb : Below w.heap.size w W) => paccept_ok r c x (.inl r1) c1 x1.1 x1.2 (ppOf q c y) (pp_el _ _ _) (prOf (keyOf q c y (ppOf r c x)) q) (pr_lt _ _) W (hT.below hb))
  have N1 := Lib.hid (fun (W : World) (hb : Below w.heap.size w W) => pshared_bad r c x 0 (by rw [Gp.no0, Bool.and_false]) W (hT.below hb))
  have N2 := Lib.hid (fun (W : World) (hb : Below w.heap.size w W) => paccept_bad r c x 2 (prOf (keyOf q c y (ppOf r c x)) q) (by rw [Gp.no2, Bool.and_false]) W (hT.below hb))
  have C1 := Lib.hid (fun w => checkE (pp_el r c x) w)
  have D1 := Lib.hid (fun w => pcheck_any 3 0 1 w)
  have D2 := Lib.hid (fun w => pcheck_any 1 1000000 1 w)
  rw [show pChk 3 0 1 = 100 by decide] at D1
  rw [show pChk 1 1000000 1 = 100 by decide] at D2
  have ek : keyOf r c x (ppOf q c y) = keyOf q c y (ppOf r c x) := by rw [r1, q2]; exact key_agree c x y
  have eq3 : 3 - r = q := by omega
  rw [ek, eq3, eqB_self] at A1
  rw [ek] at K1
  have kl := key_lt q c y (ppOf r c x)
  have pl := pr_lt (keyOf q c y (ppOf r c x)) q
  unfold d32 at K1 K2 R2 A1 N1 N2
  generalize keyOf q c y (ppOf r c x) = k at *
  generalize prOf k q = p at *
  generalize ppOf r c x = A at *
  generalize ppOf q c y = B at *
  have HQ := eqB_self k
  have KL := Lib.hid kl
  clear r1 q2 c1 x1 y1 ek eq3 kl pl
  have HT := Lib.hid hT
  clear hT
  go_enter Tryd.func19, Tryd.ntmps19
  go_wp2_with fail
  refine (X1.out _).mono ?_
  rintro e w1 ⟨rfl, hb1⟩
  have H1 := Lib.hid ((Hold.nil w).next hb1 (Nat.le_refl _))
  clear hb1
  go_wp2_with fail
  refine (X2.out _).mono ?_
  rintro e w2 ⟨rfl, hb1⟩
  have H2 := Lib.hid (H1.out.next hb1 (Nat.le_refl _))
  clear hb1 H1 X1 X2
  go_upto_region 2 with fail
  have h3 := ((H2.out.addSide r c x).addSide q c y)
  rw [alloc_size] at h3
  have H3 := Lib.hid h3
  clear h3 H2
  generalize (w2.alloc (.cells #[.int .i64 r, .int .i64 c, .int .i64 x] 24)).alloc (.cells #[.int .i64 q, .int .i64 c, .int .i64 y] 24) = w3 at *
  have hs_b := H3.out.side (.head _)
  have hs_a := H3.out.side (.tail _ (.head _))
  go_wp2_with fail
  refine (P1.out _ H3.out.below).mono ?_
  rintro e w4 ⟨rfl, hb1⟩
  have H4 := Lib.hid (H3.out.next hb1 (Nat.le_refl _))
  clear hs_b hs_a
  clear hb1 H3 P1
  have hs_b := H4.out.side (.head _)
  have hs_a := H4.out.side (.tail _ (.head _))
  go_wp2_with fail
  refine (P2.out _ H4.out.below).mono ?_
  rintro e w5 ⟨rfl, hb1⟩
  have H5 := Lib.hid (H4.out.next hb1 (Nat.le_refl _))
  clear hs_b hs_a
  clear hb1 H4 P2
  have hs_b := H5.out.side (.head _)
  have hs_a := H5.out.side (.tail _ (.head _))
  go_wp2_with fail
  refine (K1.out _ H5.out.below).mono ?_
  rintro e w6 ⟨rfl, hb1⟩
  have H6 := Lib.hid (H5.out.next hb1 (Nat.le_refl _))
  clear hs_b hs_a
  clear hb1 H5 K1
  have hs_b := H6.out.side (.head _)
  have hs_a := H6.out.side (.tail _ (.head _))
  go_upto_region 5 with first
    | (refine wpList_allocK rfl rfl ?_; intro u1 hu1)
    | (refine wpList_storeK rfl (.tmp 7) (.tmp 35) rfl w6.heap.size k hu1.out.1 hu1.out.2.1 rfl rfl ?_; intro w7 hu2)
  have H7 := Lib.hid (H6.out.addDig hu2.out.1 hu2.out.2)
  clear hs_b hs_a
  clear hu1 hu2 H6
  generalize w6.heap.size = B7 at *
  clear u1
  have hs_b := H7.out.side (.tail _ (.head _))
  have hs_a := H7.out.side (.tail _ (.tail _ (.head _)))
  go_wp2_with fail
  refine (K2.out _ H7.out.below).mono ?_
  rintro e w8 ⟨rfl, hb1⟩
  have H8 := Lib.hid (H7.out.next hb1 (Nat.le_refl _))
  clear hs_b hs_a
  clear hb1 H7 K2
  have hs_b := H8.out.side (.tail _ (.head _))
  have hs_a := H8.out.side (.tail _ (.tail _ (.head _)))
  go_upto_region 6 with first
    | (refine wpList_allocK rfl rfl ?_; intro u1 hu1)
    | (refine wpList_storeK rfl (.tmp 9) (.tmp 41) rfl w8.heap.size k hu1.out.1 hu1.out.2.1 rfl rfl ?_; intro w9 hu2)
  have H9 := Lib.hid (H8.out.addDig hu2.out.1 hu2.out.2)
  clear hs_b hs_a
  clear hu1 hu2 H8
  generalize w8.heap.size = B9 at *
  clear u1
  have hs_b := H9.out.side (.tail _ (.tail _ (.head _)))
  have hs_a := H9.out.side (.tail _ (.tail _ (.tail _ (.head _))))
  go_wp2_with fail
  refine (R2.out _ H9.out.below).mono ?_
  rintro e w10 ⟨rfl, hb1⟩
  have H10 := Lib.hid (H9.out.next hb1 (Nat.le_refl _))
  clear hs_b hs_a
  clear hb1 H9 R2
  have hs_b := H10.out.side (.tail _ (.tail _ (.head _)))
  have hs_a := H10.out.side (.tail _ (.tail _ (.tail _ (.head _))))
  go_upto_region 7 with first
    | (refine wpList_alloc32 rfl rfl ?_; intro u1 hu1)
    | (refine wpList_storeD rfl (.tmp 11) (.tmp 47) rfl w10.heap.size p hu1.out.1 hu1.out.2.1 rfl rfl ?_; intro w11 hu2)
  have H11 := Lib.hid (H10.out.addDig hu2.out.1 hu2.out.2)
  clear hs_b hs_a
  clear hu1 hu2 H10
  generalize w10.heap.size = B11 at *
  clear u1
  have hs_b := H11.out.side (.tail _ (.tail _ (.tail _ (.head _))))
  have hs_a := H11.out.side (.tail _ (.tail _ (.tail _ (.tail _ (.head _)))))
  go_wp2_with first | (refine wpList_loadD rfl (.tmp 11) rfl _ _ (H11.out.dig (.head _)) rfl ?_)
  refine (A1.out _ H11.out.below).mono ?_
  rintro e w12 ⟨rfl, hb1⟩
  have H12 := Lib.hid (H11.out.next hb1 (Nat.le_refl _))
  clear hs_b hs_a
  clear hb1 H11 A1
  have hs_b := H12.out.side (.tail _ (.tail _ (.tail _ (.head _))))
  have hs_a := H12.out.side (.tail _ (.tail _ (.tail _ (.tail _ (.head _)))))
  go_wp2_with fail
  refine (N1.out _ H12.out.below).mono ?_
  rintro e w13 ⟨rfl, hb1⟩
  have H13 := Lib.hid (H12.out.next hb1 (Nat.le_refl _))
  clear hs_b hs_a
  clear hb1 H12 N1
  have hs_b := H13.out.side (.tail _ (.tail _ (.tail _ (.head _))))
  have hs_a := H13.out.side (.tail _ (.tail _ (.tail _ (.tail _ (.head _)))))
  go_upto_region 9 with first
    | (refine wpList_allocK rfl rfl ?_; intro u1 hu1)
    | (refine wpList_storeK rfl (.tmp 15) (.tmp 59) rfl w13.heap.size (fun _ => 0) hu1.out.1 hu1.out.2.1 rfl rfl ?_; intro w14 hu2)
  have H14 := Lib.hid (H13.out.addDig hu2.out.1 hu2.out.2)
  clear hs_b hs_a
  clear hu1 hu2 H13
  generalize w13.heap.size = B14 at *
  clear u1
  have hs_b := H14.out.side (.tail _ (.tail _ (.tail _ (.tail _ (.head _)))))
  have hs_a := H14.out.side (.tail _ (.tail _ (.tail _ (.tail _ (.tail _ (.head _))))))
  go_wp2_with first | (refine wpList_loadD rfl (.tmp 11) rfl _ _ (H14.out.dig (.tail _ (.head _))) rfl ?_)
  refine (N2.out _ H14.out.below).mono ?_
  rintro e w15 ⟨rfl, hb1⟩
  have H15 := Lib.hid (H14.out.next hb1 (Nat.le_refl _))
  clear hs_b hs_a
  clear hb1 H14 N2
  have hs_b := H15.out.side (.tail _ (.tail _ (.tail _ (.tail _ (.head _)))))
  have hs_a := H15.out.side (.tail _ (.tail _ (.tail _ (.tail _ (.tail _ (.head _))))))
  go_wp2_with fail
  refine (C1.out _).mono ?_
  rintro e w16 ⟨rfl, hb1⟩
  have H16 := Lib.hid (H15.out.next hb1 (Nat.le_refl _))
  clear hs_b hs_a
  clear hb1 H15 C1
  have hs_b := H16.out.side (.tail _ (.tail _ (.tail _ (.tail _ (.head _)))))
  have hs_a := H16.out.side (.tail _ (.tail _ (.tail _ (.tail _ (.tail _ (.head _))))))
  go_wp2_with first | (refine wpList_loadKg (by rfl) (.tmp 7) rfl _ _ (H16.out.dig (.tail _ (.tail _ (.tail _ (.head _))))) rfl ?_) | (refine wpList_loadKg (by rfl) (.tmp 9) rfl _ _ (H16.out.dig (.tail _ (.tail _ (.head _)))) rfl ?_) | (refine wpList_eqlK (by rfl) (.tmp 87) (.tmp 88) 37 rfl k k KL.out KL.out rfl rfl ?_)
  refine (D1.out _).mono ?_
  rintro e w17 ⟨rfl, hb1⟩
  have H17 := Lib.hid (H16.out.next hb1 (Nat.le_refl _))
  clear hs_b hs_a
  clear hb1 H16 D1
  have hs_b := H17.out.side (.tail _ (.tail _ (.tail _ (.tail _ (.head _)))))
  have hs_a := H17.out.side (.tail _ (.tail _ (.tail _ (.tail _ (.tail _ (.head _))))))
  go_wp2_with fail
  refine (D2.out _).mono ?_
  rintro e w18 ⟨rfl, hb1⟩
  have H18 := Lib.hid (H17.out.next hb1 (Nat.le_refl _))
  clear hs_b hs_a
  clear hb1 H17 D2
  have hs_b := H18.out.side (.tail _ (.tail _ (.tail _ (.tail _ (.head _)))))
  have hs_a := H18.out.side (.tail _ (.tail _ (.tail _ (.tail _ (.tail _ (.head _))))))
  go_wp2_with fail
  go_ret
  exact ⟨rfl, H18.out.below⟩
end Go.Proofs.YtelikpkekloffaaDoor
