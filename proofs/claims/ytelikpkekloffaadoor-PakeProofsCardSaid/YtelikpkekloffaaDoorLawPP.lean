/- The law PakeProofs, walked: whatever its arguments, it returns true. -/
import Derived.Test.YtelikpkekloffaaDoorSane10
import Derived.Test.YtelikpkekloffaaDoorDraw
namespace Go.Proofs.YtelikpkekloffaaDoor
open Go.RowKit

set_option linter.unusedSimpArgs false in
set_option linter.unusedVariables false in
set_option maxRecDepth 100000 in
set_option maxHeartbeats 8000000 in
theorem pakeProofs_any (n1 n2 n3 n4 : Int) (g : Nat → Nat) (hg : ∀ i, i < 32 → g i < 256) (w : World) (hT : Tabs w) :
    Calls Tryd.prog 10 #[.int .i64 n1, .int .i64 n2, .int .i64 n3, .int .i64 n4, d32 g] w fun e w' => e = .returned (.bool true) ∧ Below w.heap.size w w' := by
  have X0 := Lib.hid (fun w hT => sane10 w hT)
  have X1 := Lib.hid (fun w => side_any n1 n2 n3 w)
  have r1 := sdR_ok n1
  have c1 := sdC_lt n2
  have x1 := sdX_ok n3
  generalize sdR n1 = r at *
  generalize sdC n2 = c at *
  generalize sdX n3 = x at *
  obtain ⟨s, hs⟩ : ∃ s, s = uN n4 % 2305843009213688669 := ⟨_, rfl⟩
  have e2 := uN_wrap n4
  have b3 : (s : Int) < 2305843009213688669 := by have := Nat.mod_lt (uN n4) (show 0 < 2305843009213688669 by decide); omega
  have e5 : (uN n4 : Int) % 2305843009213688669 = (s : Int) := by omega
  have e7 : (uN n4 : Int).tmod 2305843009213688669 = (s : Int) := by rw [Int.tmod_eq_emod_of_nonneg (by omega)]; exact e5
  generalize uN n4 = un at *
  clear hs
  obtain ⟨q, hq⟩ : ∃ q, q = 3 - r := ⟨_, rfl⟩
  have P1 := Lib.hid (fun w => baseE (k := s) (by omega) (r := Gp.pw 4611686018427377339 4 s) rfl w)
  have hpe : Gp.El (Gp.pw 4611686018427377339 4 s) := Gp.el_four.pw _
  generalize Gp.pw 4611686018427377339 4 s = peer at *
  have K1 := Lib.hid (fun (W : World) (hb : Below w.heap.size w W) => pshared_ok r c x r1 c1 x1.1 x1.2 peer hpe W (hT.below hb))
  have R1 := Lib.hid (fun (W : World) (hb : Below w.heap.size w W) => pproved_ok r c x r1 c1 x1.1 x1.2 peer hpe W (hT.below hb))
  have A1 := Lib.hid (fun (W : World) (hb : Below w.heap.size w W) (d : Nat → Nat) (hd : ∀ i, i < 32 → d i < 256) => paccept_ok r c x r1 c1 x1.1 x1.2 peer hpe d hd W (hT.below hb))
  have KL := Lib.hid (key_lt r c x peer)
  rw [← hq] at A1
  generalize keyOf r c x peer = k at *
  have T1 := Lib.hid (fun (W : World) (hb : Below w.heap.size w W) (p : Option Addr) (cap : Nat) (hy : Bytes W p (32 + 1) cap (Sha.cat 32 k (fun _ => r))) (hc : cap ≤ 9223372036854775807) =>
    tagged_any proofT p (32 + 1) cap _ W (hT.below hb) hy (by decide) (by decide) hc)
  have T2 := Lib.hid (fun (W : World) (hb : Below w.heap.size w W) (p : Option Addr) (cap : Nat) (hy : Bytes W p (32 + 1) cap (Sha.cat 32 k (fun _ => q))) (hc : cap ≤ 9223372036854775807) =>
    tagged_any proofT p (32 + 1) cap _ W (hT.below hb) hy (by decide) (by decide) hc)
  rw [show Sha.tagged proofT.size (sb proofT) (32 + 1) (Sha.cat 32 k (fun _ => r)) = prOf k r from rfl] at T1
  rw [show Sha.tagged proofT.size (sb proofT) (32 + 1) (Sha.cat 32 k (fun _ => q)) = prOf k q from rfl] at T2
  have l1 := Lib.hid (pr_lt k r)
  have l2 := Lib.hid (pr_lt k q)
  have HG := Lib.hid hg
  generalize prOf k r = f1 at *
  generalize prOf k q = f2 at *
  have HRB := Lib.hid (show r < 256 by omega)
  have HQB := Lib.hid (show q < 256 by omega)
  have CA1 := Lib.hid (cat33_lt KL.out HRB.out)
  have CA2 := Lib.hid (cat33_lt KL.out HQB.out)
  have e3 : (3 : Int) - (r : Int) = (q : Int) := by omega
  have eW : IntKind.i64.wrap (q : Int) = (q : Int) := by rw [IntKind.wrap_i64]; omega
  have eb1 : IntKind.u8.wrap (r : Int) = (r : Int) := by
    simp only [IntKind.wrap, IntKind.bits, IntKind.signed]; simp; omega
  have eb2 : IntKind.u8.wrap (q : Int) = (q : Int) := by
    simp only [IntKind.wrap, IntKind.bits, IntKind.signed]; simp; omega
  have bq : (q : Int) ≤ 2 := by omega
  have br : (r : Int) ≤ 2 := by omega
  unfold d32 at K1 R1 A1 T1 T2
  unfold d32
  have he1 := eqB_self f1
  clear r1 c1 x1 hq hpe hg
  have HT := Lib.hid hT
  clear hT
  go_enter Tryd.func10, Tryd.ntmps10
  go_upto_region 1 with fail
  change Code.wp Tryd.prog _ _ _ (w.alloc (.cells (c32 g).toArray 44))
  have H1 := Lib.hid ((Hold.nil w).addDigNew g 44)
  generalize w.alloc (.cells (c32 g).toArray 44) = w1 at *
  go_wp2_with fail
  refine (X0.out _ (HT.out.below H1.out.below)).mono ?_
  rintro e w2 ⟨rfl, hb1⟩
  have H2 := Lib.hid (H1.out.next hb1 (Nat.le_refl _))
  clear hb1 H1 X0
  go_wp2_with fail
  refine (X1.out _).mono ?_
  rintro e w3 ⟨rfl, hb1⟩
  have H3 := Lib.hid (H2.out.next hb1 (Nat.le_refl _))
  clear hb1 H2 X1
  go_upto_region 4 with fail
  have h4 := (H3.out.addSide r c x)
  have H4 := Lib.hid h4
  clear h4 H3
  generalize w3.alloc (.cells #[.int .i64 r, .int .i64 c, .int .i64 x] 24) = w4 at *
  have hs_s := H4.out.side (.head _)
  go_wp2_with fail
  refine (P1.out _).mono ?_
  rintro e w5 ⟨rfl, hb1⟩
  have H5 := Lib.hid (H4.out.next hb1 (Nat.le_refl _))
  clear hs_s
  clear hb1 H4 P1
  have hs_s := H5.out.side (.head _)
  go_wp2_with fail
  refine (K1.out _ H5.out.below).mono ?_
  rintro e w6 ⟨rfl, hb1⟩
  have H6 := Lib.hid (H5.out.next hb1 (Nat.le_refl _))
  clear hs_s
  clear hb1 H5 K1
  have hs_s := H6.out.side (.head _)
  go_upto_region 6 with first
    | (refine wpList_allocK rfl rfl ?_; intro u1 hu1)
    | (refine wpList_storeK rfl (.tmp 14) (.tmp 42) rfl w6.heap.size k hu1.out.1 hu1.out.2.1 rfl rfl ?_; intro w7 hu2)
  have H7 := Lib.hid (H6.out.addDig hu2.out.1 hu2.out.2)
  clear hs_s
  clear hu1 hu2 H6
  generalize w6.heap.size = B7 at *
  clear u1
  have hs_s := H7.out.side (.tail _ (.head _))
  go_wp2_with fail
  refine (R1.out _ H7.out.below).mono ?_
  rintro e w8 ⟨rfl, hb1⟩
  have H8 := Lib.hid (H7.out.next hb1 (Nat.le_refl _))
  clear hs_s
  clear hb1 H7 R1
  have hs_s := H8.out.side (.tail _ (.head _))
  go_upto_region 7 with first
    | (refine wpList_alloc32 rfl rfl ?_; intro u1 hu1)
    | (refine wpList_storeD rfl (.tmp 16) (.tmp 48) rfl w8.heap.size f1 hu1.out.1 hu1.out.2.1 rfl rfl ?_; intro w9 hu2)
  have H9 := Lib.hid (H8.out.addDig hu2.out.1 hu2.out.2)
  clear hs_s
  clear hu1 hu2 H8
  generalize w8.heap.size = B9 at *
  clear u1
  have hs_s := H9.out.side (.tail _ (.tail _ (.head _)))
  have HBN := HRB
  have CATL := CA1
  clear hs_s
  go_upto_region 9 with fail
  go_cut [18] from 60 to 68 (fun v wx => ∃ B : Nat, v = .pointer (some ⟨B, 0, none⟩) ∧ Hid (Hold w (DigC B f1 :: [DigC B9 f1, DigC B7 k, SideC w3.heap.size r c x, DigC w.heap.size g]) wx))
  case first =>
    have hk := H9.out.dig (.tail _ (.head _))
    have HK0 := Lib.hid (show Bytes w9 (some ⟨B7, 0, none⟩) 32 32 k from ⟨fun _ => ⟨B7, 0, rfl, DigC.lt hk, hk.reads⟩, KL.out, Nat.le_refl _, fun e => by cases e⟩)
    have hsl := fun W => run_slice_key W B7
    have HS0 := Lib.hid (fun (W : World) (hb : Below w9.heap.size w9 W) => show W.cell? ⟨w3.heap.size, 0, none⟩ = some (.int .i64 (r : Int)) ∧ Below w9.heap.size w9 W from ⟨((H9.out.next hb (Nat.le_refl _)).side (.tail _ (.tail _ (.head _)))).1, hb⟩)
    have HT0 := Lib.hid (fun (W : World) (hb : Below w9.heap.size w9 W) p cap hy hc => T1.out W (H9.out.next hb (Nat.le_refl _)).below p cap hy hc)
    clear hk
    refine wp_region_held_drew (S := fun W => W.cell? ⟨w3.heap.size, 0, none⟩ = some (.int .i64 (r : Int)) ∧ Below w9.heap.size w9 W) (by kernel_rfl) (HS0.out _ (Below.refl _ _).drew) (fun hH => ?_)
    refine wpAnyH_take (i := 1) (v := ?v1r9) rfl (by kernel_rfl) (by kernel_rfl) (by kernel_rfl) (fun _ _ _ h => h) (Or.inl ⟨by rfl, ?y1r9⟩) hH ?_
    case y1r9 => intro W hSw; go_simp; try with_reducible rfl
    try simp only [List.getElem_toArray, List.getElem_cons_succ, List.getElem_cons_zero, Act.put, List.setIfInBounds_toArray, List.set_cons_zero, List.set_cons_succ]
    refine wpAnyH_take (i := 3) (v := ?v3r9) rfl (by kernel_rfl) (by kernel_rfl) (by kernel_rfl) (fun _ _ _ h => h) (Or.inl ⟨by rfl, ?y3r9⟩) hH ?_
    case y3r9 => intro W hSw; go_simp; try with_reducible rfl
    try simp only [List.getElem_toArray, List.getElem_cons_succ, List.getElem_cons_zero, Act.put, List.setIfInBounds_toArray, List.set_cons_zero, List.set_cons_succ]
    refine wpAnyH_take (i := 4) (v := ?v4r9) rfl (by kernel_rfl) (by kernel_rfl) (by kernel_rfl) (fun _ _ _ h => h) (Or.inl ⟨by rfl, ?y4r9⟩) hH ?_
    case y4r9 => intro W hSw; go_simp; try with_reducible rfl
    try simp only [List.getElem_toArray, List.getElem_cons_succ, List.getElem_cons_zero, Act.put, List.setIfInBounds_toArray, List.set_cons_zero, List.set_cons_succ]
    refine wpAnyH_take (i := 5) (v := ?v5r9) rfl (by kernel_rfl) (by kernel_rfl) (by kernel_rfl) (fun _ _ _ h => h) (Or.inl ⟨by rfl, ?y5r9⟩) hH ?_
    case y5r9 => intro W hSw; go_simp; try with_reducible rfl
    try simp only [List.getElem_toArray, List.getElem_cons_succ, List.getElem_cons_zero, Act.put, List.setIfInBounds_toArray, List.set_cons_zero, List.set_cons_succ]
    have HB := Lib.hid hH.2
    clear hH
    generalize w9.drew = x0 at *
    refine wpAnyH_ready (rs := [0, 6, 9]) (by kernel_rfl) (by simp) (AllReadyH.cons rfl (fun K hK => ?_) (AllReadyH.cons rfl (fun K hK => ?_) (AllReadyH.cons rfl (fun K hK => ?_) AllReadyH.nil)))
    · refine st_new0 rfl rfl ?_
      intro x1 hz
      replace HB := Lib.hid (HB.out.trans (hz.out.2.mono HB.out.size))
      clear hz
      refine hK.out _ _ (HS0.out _ HB.out) (fun _ => ?_)
      clear hK
      try simp only [List.getElem_toArray, List.getElem_cons_succ, List.getElem_cons_zero, Act.put, List.setIfInBounds_toArray, List.set_cons_zero, List.set_cons_succ]
      refine wpAnyH_ready (rs := [2, 6, 9]) (by kernel_rfl) (by simp) (AllReadyH.cons rfl (fun K hK => ?_) (AllReadyH.cons rfl (fun K hK => ?_) (AllReadyH.cons rfl (fun K hK => ?_) AllReadyH.nil)))
      · refine st_app0 rfl (.tmp 60) (.tmp 61) rfl _ rfl _ 32 32 k rfl (HK0.out.below HB.out (Nat.le_refl _)) (by decide) (by decide) ?_
        intro v2 x2 hz
        have F2 := Lib.hid (own_le hz.out.1 HB.out.size)
        replace HB := Lib.hid (HB.out.trans (hz.out.2.mono HB.out.size))
        clear hz
        refine hK.out _ _ (HS0.out _ HB.out) (fun _ => ?_)
        clear hK
        try simp only [List.getElem_toArray, List.getElem_cons_succ, List.getElem_cons_zero, Act.put, List.setIfInBounds_toArray, List.set_cons_zero, List.set_cons_succ]
        refine wpAnyH_ready (rs := [6, 9]) (by kernel_rfl) (by simp) (AllReadyH.cons rfl (fun K hK => ?_) (AllReadyH.cons rfl (fun K hK => ?_) AllReadyH.nil))
        · refine st_new1 rfl (.tmp 65) rfl r HBN.out rfl ?_
          intro x3 hz
          have F6 := Lib.hid hz.out.1
          replace F2 := Lib.hid (owns_below F2.out hz.out.2 (Nat.le_refl _))
          replace HB := Lib.hid (HB.out.trans (hz.out.2.mono HB.out.size))
          clear hz
          refine hK.out _ _ (HS0.out _ HB.out) (fun _ => ?_)
          clear hK
          try simp only [List.getElem_toArray, List.getElem_cons_succ, List.getElem_cons_zero, Act.put, List.setIfInBounds_toArray, List.set_cons_zero, List.set_cons_succ]
          refine wpAnyH_ready (rs := [7, 9]) (by kernel_rfl) (by simp) (AllReadyH.cons rfl (fun K hK => ?_) (AllReadyH.cons rfl (fun K hK => ?_) AllReadyH.nil))
          · refine st_app rfl (.tmp 62) (.tmp 66) rfl w9.heap.size v2 32 _ rfl F2.out _ 1 1 (fun _ => r) rfl F6.out (by decide) (by decide) HB.out.size ?_
            intro v7 x4 hz
            have ho := hz.out.1
            rw [bl_cat] at ho
            obtain ⟨p7, c7, rfl, hy7, hc7⟩ := Bytes.own ho (fun i hi => bl_get _ _ i hi) CATL.out
            have F7 := Lib.hid (show _ ∧ _ from ⟨hy7, hc7⟩)
            replace HB := Lib.hid (HB.out.trans hz.out.2.1)
            clear F2 F6 ho hy7 hc7 hz
            refine hK.out _ _ (HS0.out _ HB.out) (fun _ => ?_)
            clear hK
            try simp only [List.getElem_toArray, List.getElem_cons_succ, List.getElem_cons_zero, Act.put, List.setIfInBounds_toArray, List.set_cons_zero, List.set_cons_succ]
            refine wpAnyH_ready (rs := [8, 9]) (by kernel_rfl) (by simp) (AllReadyH.cons rfl (fun K hK => ?_) (AllReadyH.cons rfl (fun K hK => ?_) AllReadyH.nil))
            · go_simp
              refine (HT0.out _ HB.out p7 c7 F7.out.1 F7.out.2).mono ?_
              rintro e x5 ⟨rfl, hz⟩
              go_wp2_with fail
              replace F7 := Lib.hid (show _ ∧ _ from ⟨F7.out.1.below hz (Nat.le_refl _), F7.out.2⟩)
              replace HB := Lib.hid (HB.out.trans (hz.mono HB.out.size))
              clear hz
              clear F7
              refine hK.out _ _ (HS0.out _ HB.out) (fun _ => ?_)
              clear hK
              try simp only [List.getElem_toArray, List.getElem_cons_succ, List.getElem_cons_zero, Act.put, List.setIfInBounds_toArray, List.set_cons_zero, List.set_cons_succ]
              refine wpAnyH_ready (rs := [9]) (by kernel_rfl) (by simp) (AllReadyH.cons rfl (fun K hK => ?_) AllReadyH.nil)
              refine st_dig rfl rfl ?_
              intro x6 hz
              have F9 := Lib.hid (show w9.heap.size ≤ x5.heap.size ∧ _ from ⟨HB.out.size, hz.out.1⟩)
              replace HB := Lib.hid (HB.out.trans (hz.out.2.mono HB.out.size))
              clear hz
              refine hK.out _ _ (HS0.out _ HB.out) (fun _ => ?_)
              clear hK
              try simp only [List.getElem_toArray, List.getElem_cons_succ, List.getElem_cons_zero, Act.put, List.setIfInBounds_toArray, List.set_cons_zero, List.set_cons_succ]
              refine wpAnyH_ready (rs := [10]) (by kernel_rfl) (by simp) (AllReadyH.cons rfl (fun K hK => ?_) AllReadyH.nil)
              refine st_store rfl (.tmp 18) (.tmp 68) rfl _ f1 rfl rfl F9.out.2 F9.out.1 HB.out ?_
              intro x7 hz
              refine hK.out _ _ (HS0.out _ hz.out.2) (fun _ => ?_)
              refine wpAnyH_done (by kernel_rfl) ?_ _
              clear hK
              try simp only [List.getElem_toArray, List.getElem_cons_succ, List.getElem_cons_zero, Act.put, List.setIfInBounds_toArray, List.set_cons_zero, List.set_cons_succ]
              go_wp2_with fail
              go_meet
              case rel => exact ⟨_, rfl, Lib.hid (H9.out.add hz.out.2 (Nat.le_refl _) _ hz.out.1 (DigC.kept _ _))⟩
            · refine st_dig rfl rfl ?_
              intro x5 hz
              have F9 := Lib.hid (show w9.heap.size ≤ x4.heap.size ∧ _ from ⟨HB.out.size, hz.out.1⟩)
              replace F7 := Lib.hid (show _ ∧ _ from ⟨F7.out.1.below hz.out.2 (Nat.le_refl _), F7.out.2⟩)
              replace HB := Lib.hid (HB.out.trans (hz.out.2.mono HB.out.size))
              clear hz
              refine hK.out _ _ (HS0.out _ HB.out) (fun _ => ?_)
              clear hK
              try simp only [List.getElem_toArray, List.getElem_cons_succ, List.getElem_cons_zero, Act.put, List.setIfInBounds_toArray, List.set_cons_zero, List.set_cons_succ]
              refine wpAnyH_ready (rs := [8]) (by kernel_rfl) (by simp) (AllReadyH.cons rfl (fun K hK => ?_) AllReadyH.nil)
              go_simp
              refine (HT0.out _ HB.out p7 c7 F7.out.1 F7.out.2).mono ?_
              rintro e x6 ⟨rfl, hz⟩
              go_wp2_with fail
              replace F7 := Lib.hid (show _ ∧ _ from ⟨F7.out.1.below hz (Nat.le_refl _), F7.out.2⟩)
              replace F9 := Lib.hid (show _ ∧ _ from ⟨F9.out.1, obj_below F9.out.2 hz (Nat.le_refl _)⟩)
              replace HB := Lib.hid (HB.out.trans (hz.mono HB.out.size))
              clear hz
              clear F7
              refine hK.out _ _ (HS0.out _ HB.out) (fun _ => ?_)
              clear hK
              try simp only [List.getElem_toArray, List.getElem_cons_succ, List.getElem_cons_zero, Act.put, List.setIfInBounds_toArray, List.set_cons_zero, List.set_cons_succ]
              refine wpAnyH_ready (rs := [10]) (by kernel_rfl) (by simp) (AllReadyH.cons rfl (fun K hK => ?_) AllReadyH.nil)
              refine st_store rfl (.tmp 18) (.tmp 68) rfl _ f1 rfl rfl F9.out.2 F9.out.1 HB.out ?_
              intro x7 hz
              refine hK.out _ _ (HS0.out _ hz.out.2) (fun _ => ?_)
              refine wpAnyH_done (by kernel_rfl) ?_ _
              clear hK
              try simp only [List.getElem_toArray, List.getElem_cons_succ, List.getElem_cons_zero, Act.put, List.setIfInBounds_toArray, List.set_cons_zero, List.set_cons_succ]
              go_wp2_with fail
              go_meet
              case rel => exact ⟨_, rfl, Lib.hid (H9.out.add hz.out.2 (Nat.le_refl _) _ hz.out.1 (DigC.kept _ _))⟩
          · refine st_dig rfl rfl ?_
            intro x4 hz
            have F9 := Lib.hid (show w9.heap.size ≤ x3.heap.size ∧ _ from ⟨HB.out.size, hz.out.1⟩)
            replace F2 := Lib.hid (owns_below F2.out hz.out.2 (Nat.le_refl _))
            replace F6 := Lib.hid (F6.out.below hz.out.2 (Nat.le_refl _))
            replace HB := Lib.hid (HB.out.trans (hz.out.2.mono HB.out.size))
            clear hz
            refine hK.out _ _ (HS0.out _ HB.out) (fun _ => ?_)
            clear hK
            try simp only [List.getElem_toArray, List.getElem_cons_succ, List.getElem_cons_zero, Act.put, List.setIfInBounds_toArray, List.set_cons_zero, List.set_cons_succ]
            refine wpAnyH_ready (rs := [7]) (by kernel_rfl) (by simp) (AllReadyH.cons rfl (fun K hK => ?_) AllReadyH.nil)
            refine st_app rfl (.tmp 62) (.tmp 66) rfl w9.heap.size v2 32 _ rfl F2.out _ 1 1 (fun _ => r) rfl F6.out (by decide) (by decide) HB.out.size ?_
            intro v7 x5 hz
            have ho := hz.out.1
            rw [bl_cat] at ho
            obtain ⟨p7, c7, rfl, hy7, hc7⟩ := Bytes.own ho (fun i hi => bl_get _ _ i hi) CATL.out
            have F7 := Lib.hid (show _ ∧ _ from ⟨hy7, hc7⟩)
            replace F9 := Lib.hid (show _ ∧ _ from ⟨F9.out.1, hz.out.2.2 _ F9.out.2⟩)
            replace HB := Lib.hid (HB.out.trans hz.out.2.1)
            clear F2 F6 ho hy7 hc7 hz
            refine hK.out _ _ (HS0.out _ HB.out) (fun _ => ?_)
            clear hK
            try simp only [List.getElem_toArray, List.getElem_cons_succ, List.getElem_cons_zero, Act.put, List.setIfInBounds_toArray, List.set_cons_zero, List.set_cons_succ]
            refine wpAnyH_ready (rs := [8]) (by kernel_rfl) (by simp) (AllReadyH.cons rfl (fun K hK => ?_) AllReadyH.nil)
            go_simp
            refine (HT0.out _ HB.out p7 c7 F7.out.1 F7.out.2).mono ?_
            rintro e x6 ⟨rfl, hz⟩
            go_wp2_with fail
            replace F9 := Lib.hid (show _ ∧ _ from ⟨F9.out.1, obj_below F9.out.2 hz (Nat.le_refl _)⟩)
            replace F7 := Lib.hid (show _ ∧ _ from ⟨F7.out.1.below hz (Nat.le_refl _), F7.out.2⟩)
            replace HB := Lib.hid (HB.out.trans (hz.mono HB.out.size))
            clear hz
            clear F7
            refine hK.out _ _ (HS0.out _ HB.out) (fun _ => ?_)
            clear hK
            try simp only [List.getElem_toArray, List.getElem_cons_succ, List.getElem_cons_zero, Act.put, List.setIfInBounds_toArray, List.set_cons_zero, List.set_cons_succ]
            refine wpAnyH_ready (rs := [10]) (by kernel_rfl) (by simp) (AllReadyH.cons rfl (fun K hK => ?_) AllReadyH.nil)
            refine st_store rfl (.tmp 18) (.tmp 68) rfl _ f1 rfl rfl F9.out.2 F9.out.1 HB.out ?_
            intro x7 hz
            refine hK.out _ _ (HS0.out _ hz.out.2) (fun _ => ?_)
            refine wpAnyH_done (by kernel_rfl) ?_ _
            clear hK
            try simp only [List.getElem_toArray, List.getElem_cons_succ, List.getElem_cons_zero, Act.put, List.setIfInBounds_toArray, List.set_cons_zero, List.set_cons_succ]
            go_wp2_with fail
            go_meet
            case rel => exact ⟨_, rfl, Lib.hid (H9.out.add hz.out.2 (Nat.le_refl _) _ hz.out.1 (DigC.kept _ _))⟩
        · refine st_dig rfl rfl ?_
          intro x3 hz
          have F9 := Lib.hid (show w9.heap.size ≤ x2.heap.size ∧ _ from ⟨HB.out.size, hz.out.1⟩)
          replace F2 := Lib.hid (owns_below F2.out hz.out.2 (Nat.le_refl _))
          replace HB := Lib.hid (HB.out.trans (hz.out.2.mono HB.out.size))
          clear hz
          refine hK.out _ _ (HS0.out _ HB.out) (fun _ => ?_)
          clear hK
          try simp only [List.getElem_toArray, List.getElem_cons_succ, List.getElem_cons_zero, Act.put, List.setIfInBounds_toArray, List.set_cons_zero, List.set_cons_succ]
          refine wpAnyH_ready (rs := [6]) (by kernel_rfl) (by simp) (AllReadyH.cons rfl (fun K hK => ?_) AllReadyH.nil)
          refine st_new1 rfl (.tmp 65) rfl r HBN.out rfl ?_
          intro x4 hz
          have F6 := Lib.hid hz.out.1
          replace F2 := Lib.hid (owns_below F2.out hz.out.2 (Nat.le_refl _))
          replace F9 := Lib.hid (show _ ∧ _ from ⟨F9.out.1, obj_below F9.out.2 hz.out.2 (Nat.le_refl _)⟩)
          replace HB := Lib.hid (HB.out.trans (hz.out.2.mono HB.out.size))
          clear hz
          refine hK.out _ _ (HS0.out _ HB.out) (fun _ => ?_)
          clear hK
          try simp only [List.getElem_toArray, List.getElem_cons_succ, List.getElem_cons_zero, Act.put, List.setIfInBounds_toArray, List.set_cons_zero, List.set_cons_succ]
          refine wpAnyH_ready (rs := [7]) (by kernel_rfl) (by simp) (AllReadyH.cons rfl (fun K hK => ?_) AllReadyH.nil)
          refine st_app rfl (.tmp 62) (.tmp 66) rfl w9.heap.size v2 32 _ rfl F2.out _ 1 1 (fun _ => r) rfl F6.out (by decide) (by decide) HB.out.size ?_
          intro v7 x5 hz
          have ho := hz.out.1
          rw [bl_cat] at ho
          obtain ⟨p7, c7, rfl, hy7, hc7⟩ := Bytes.own ho (fun i hi => bl_get _ _ i hi) CATL.out
          have F7 := Lib.hid (show _ ∧ _ from ⟨hy7, hc7⟩)
          replace F9 := Lib.hid (show _ ∧ _ from ⟨F9.out.1, hz.out.2.2 _ F9.out.2⟩)
          replace HB := Lib.hid (HB.out.trans hz.out.2.1)
          clear F2 F6 ho hy7 hc7 hz
          refine hK.out _ _ (HS0.out _ HB.out) (fun _ => ?_)
          clear hK
          try simp only [List.getElem_toArray, List.getElem_cons_succ, List.getElem_cons_zero, Act.put, List.setIfInBounds_toArray, List.set_cons_zero, List.set_cons_succ]
          refine wpAnyH_ready (rs := [8]) (by kernel_rfl) (by simp) (AllReadyH.cons rfl (fun K hK => ?_) AllReadyH.nil)
          go_simp
          refine (HT0.out _ HB.out p7 c7 F7.out.1 F7.out.2).mono ?_
          rintro e x6 ⟨rfl, hz⟩
          go_wp2_with fail
          replace F9 := Lib.hid (show _ ∧ _ from ⟨F9.out.1, obj_below F9.out.2 hz (Nat.le_refl _)⟩)
          replace F7 := Lib.hid (show _ ∧ _ from ⟨F7.out.1.below hz (Nat.le_refl _), F7.out.2⟩)
          replace HB := Lib.hid (HB.out.trans (hz.mono HB.out.size))
          clear hz
          clear F7
          refine hK.out _ _ (HS0.out _ HB.out) (fun _ => ?_)
          clear hK
          try simp only [List.getElem_toArray, List.getElem_cons_succ, List.getElem_cons_zero, Act.put, List.setIfInBounds_toArray, List.set_cons_zero, List.set_cons_succ]
          refine wpAnyH_ready (rs := [10]) (by kernel_rfl) (by simp) (AllReadyH.cons rfl (fun K hK => ?_) AllReadyH.nil)
          refine st_store rfl (.tmp 18) (.tmp 68) rfl _ f1 rfl rfl F9.out.2 F9.out.1 HB.out ?_
          intro x7 hz
          refine hK.out _ _ (HS0.out _ hz.out.2) (fun _ => ?_)
          refine wpAnyH_done (by kernel_rfl) ?_ _
          clear hK
          try simp only [List.getElem_toArray, List.getElem_cons_succ, List.getElem_cons_zero, Act.put, List.setIfInBounds_toArray, List.set_cons_zero, List.set_cons_succ]
          go_wp2_with fail
          go_meet
          case rel => exact ⟨_, rfl, Lib.hid (H9.out.add hz.out.2 (Nat.le_refl _) _ hz.out.1 (DigC.kept _ _))⟩
      · refine st_new1 rfl (.tmp 65) rfl r HBN.out rfl ?_
        intro x2 hz
        have F6 := Lib.hid hz.out.1
        replace HB := Lib.hid (HB.out.trans (hz.out.2.mono HB.out.size))
        clear hz
        refine hK.out _ _ (HS0.out _ HB.out) (fun _ => ?_)
        clear hK
        try simp only [List.getElem_toArray, List.getElem_cons_succ, List.getElem_cons_zero, Act.put, List.setIfInBounds_toArray, List.set_cons_zero, List.set_cons_succ]
        refine wpAnyH_ready (rs := [2, 9]) (by kernel_rfl) (by simp) (AllReadyH.cons rfl (fun K hK => ?_) (AllReadyH.cons rfl (fun K hK => ?_) AllReadyH.nil))
        · refine st_app0 rfl (.tmp 60) (.tmp 61) rfl _ rfl _ 32 32 k rfl (HK0.out.below HB.out (Nat.le_refl _)) (by decide) (by decide) ?_
          intro v2 x3 hz
          have F2 := Lib.hid (own_le hz.out.1 HB.out.size)
          replace F6 := Lib.hid (F6.out.below hz.out.2 (Nat.le_refl _))
          replace HB := Lib.hid (HB.out.trans (hz.out.2.mono HB.out.size))
          clear hz
          refine hK.out _ _ (HS0.out _ HB.out) (fun _ => ?_)
          clear hK
          try simp only [List.getElem_toArray, List.getElem_cons_succ, List.getElem_cons_zero, Act.put, List.setIfInBounds_toArray, List.set_cons_zero, List.set_cons_succ]
          refine wpAnyH_ready (rs := [7, 9]) (by kernel_rfl) (by simp) (AllReadyH.cons rfl (fun K hK => ?_) (AllReadyH.cons rfl (fun K hK => ?_) AllReadyH.nil))
          · refine st_app rfl (.tmp 62) (.tmp 66) rfl w9.heap.size v2 32 _ rfl F2.out _ 1 1 (fun _ => r) rfl F6.out (by decide) (by decide) HB.out.size ?_
            intro v7 x4 hz
            have ho := hz.out.1
            rw [bl_cat] at ho
            obtain ⟨p7, c7, rfl, hy7, hc7⟩ := Bytes.own ho (fun i hi => bl_get _ _ i hi) CATL.out
            have F7 := Lib.hid (show _ ∧ _ from ⟨hy7, hc7⟩)
            replace HB := Lib.hid (HB.out.trans hz.out.2.1)
            clear F2 F6 ho hy7 hc7 hz
            refine hK.out _ _ (HS0.out _ HB.out) (fun _ => ?_)
            clear hK
            try simp only [List.getElem_toArray, List.getElem_cons_succ, List.getElem_cons_zero, Act.put, List.setIfInBounds_toArray, List.set_cons_zero, List.set_cons_succ]
            refine wpAnyH_ready (rs := [8, 9]) (by kernel_rfl) (by simp) (AllReadyH.cons rfl (fun K hK => ?_) (AllReadyH.cons rfl (fun K hK => ?_) AllReadyH.nil))
            · go_simp
              refine (HT0.out _ HB.out p7 c7 F7.out.1 F7.out.2).mono ?_
              rintro e x5 ⟨rfl, hz⟩
              go_wp2_with fail
              replace F7 := Lib.hid (show _ ∧ _ from ⟨F7.out.1.below hz (Nat.le_refl _), F7.out.2⟩)
              replace HB := Lib.hid (HB.out.trans (hz.mono HB.out.size))
              clear hz
              clear F7
              refine hK.out _ _ (HS0.out _ HB.out) (fun _ => ?_)
              clear hK
              try simp only [List.getElem_toArray, List.getElem_cons_succ, List.getElem_cons_zero, Act.put, List.setIfInBounds_toArray, List.set_cons_zero, List.set_cons_succ]
              refine wpAnyH_ready (rs := [9]) (by kernel_rfl) (by simp) (AllReadyH.cons rfl (fun K hK => ?_) AllReadyH.nil)
              refine st_dig rfl rfl ?_
              intro x6 hz
              have F9 := Lib.hid (show w9.heap.size ≤ x5.heap.size ∧ _ from ⟨HB.out.size, hz.out.1⟩)
              replace HB := Lib.hid (HB.out.trans (hz.out.2.mono HB.out.size))
              clear hz
              refine hK.out _ _ (HS0.out _ HB.out) (fun _ => ?_)
              clear hK
              try simp only [List.getElem_toArray, List.getElem_cons_succ, List.getElem_cons_zero, Act.put, List.setIfInBounds_toArray, List.set_cons_zero, List.set_cons_succ]
              refine wpAnyH_ready (rs := [10]) (by kernel_rfl) (by simp) (AllReadyH.cons rfl (fun K hK => ?_) AllReadyH.nil)
              refine st_store rfl (.tmp 18) (.tmp 68) rfl _ f1 rfl rfl F9.out.2 F9.out.1 HB.out ?_
              intro x7 hz
              refine hK.out _ _ (HS0.out _ hz.out.2) (fun _ => ?_)
              refine wpAnyH_done (by kernel_rfl) ?_ _
              clear hK
              try simp only [List.getElem_toArray, List.getElem_cons_succ, List.getElem_cons_zero, Act.put, List.setIfInBounds_toArray, List.set_cons_zero, List.set_cons_succ]
              go_wp2_with fail
              go_meet
              case rel => exact ⟨_, rfl, Lib.hid (H9.out.add hz.out.2 (Nat.le_refl _) _ hz.out.1 (DigC.kept _ _))⟩
            · refine st_dig rfl rfl ?_
              intro x5 hz
              have F9 := Lib.hid (show w9.heap.size ≤ x4.heap.size ∧ _ from ⟨HB.out.size, hz.out.1⟩)
              replace F7 := Lib.hid (show _ ∧ _ from ⟨F7.out.1.below hz.out.2 (Nat.le_refl _), F7.out.2⟩)
              replace HB := Lib.hid (HB.out.trans (hz.out.2.mono HB.out.size))
              clear hz
              refine hK.out _ _ (HS0.out _ HB.out) (fun _ => ?_)
              clear hK
              try simp only [List.getElem_toArray, List.getElem_cons_succ, List.getElem_cons_zero, Act.put, List.setIfInBounds_toArray, List.set_cons_zero, List.set_cons_succ]
              refine wpAnyH_ready (rs := [8]) (by kernel_rfl) (by simp) (AllReadyH.cons rfl (fun K hK => ?_) AllReadyH.nil)
              go_simp
              refine (HT0.out _ HB.out p7 c7 F7.out.1 F7.out.2).mono ?_
              rintro e x6 ⟨rfl, hz⟩
              go_wp2_with fail
              replace F7 := Lib.hid (show _ ∧ _ from ⟨F7.out.1.below hz (Nat.le_refl _), F7.out.2⟩)
              replace F9 := Lib.hid (show _ ∧ _ from ⟨F9.out.1, obj_below F9.out.2 hz (Nat.le_refl _)⟩)
              replace HB := Lib.hid (HB.out.trans (hz.mono HB.out.size))
              clear hz
              clear F7
              refine hK.out _ _ (HS0.out _ HB.out) (fun _ => ?_)
              clear hK
              try simp only [List.getElem_toArray, List.getElem_cons_succ, List.getElem_cons_zero, Act.put, List.setIfInBounds_toArray, List.set_cons_zero, List.set_cons_succ]
              refine wpAnyH_ready (rs := [10]) (by kernel_rfl) (by simp) (AllReadyH.cons rfl (fun K hK => ?_) AllReadyH.nil)
              refine st_store rfl (.tmp 18) (.tmp 68) rfl _ f1 rfl rfl F9.out.2 F9.out.1 HB.out ?_
              intro x7 hz
              refine hK.out _ _ (HS0.out _ hz.out.2) (fun _ => ?_)
              refine wpAnyH_done (by kernel_rfl) ?_ _
              clear hK
              try simp only [List.getElem_toArray, List.getElem_cons_succ, List.getElem_cons_zero, Act.put, List.setIfInBounds_toArray, List.set_cons_zero, List.set_cons_succ]
              go_wp2_with fail
              go_meet
              case rel => exact ⟨_, rfl, Lib.hid (H9.out.add hz.out.2 (Nat.le_refl _) _ hz.out.1 (DigC.kept _ _))⟩
          · refine st_dig rfl rfl ?_
            intro x4 hz
            have F9 := Lib.hid (show w9.heap.size ≤ x3.heap.size ∧ _ from ⟨HB.out.size, hz.out.1⟩)
            replace F6 := Lib.hid (F6.out.below hz.out.2 (Nat.le_refl _))
            replace F2 := Lib.hid (owns_below F2.out hz.out.2 (Nat.le_refl _))
            replace HB := Lib.hid (HB.out.trans (hz.out.2.mono HB.out.size))
            clear hz
            refine hK.out _ _ (HS0.out _ HB.out) (fun _ => ?_)
            clear hK
            try simp only [List.getElem_toArray, List.getElem_cons_succ, List.getElem_cons_zero, Act.put, List.setIfInBounds_toArray, List.set_cons_zero, List.set_cons_succ]
            refine wpAnyH_ready (rs := [7]) (by kernel_rfl) (by simp) (AllReadyH.cons rfl (fun K hK => ?_) AllReadyH.nil)
            refine st_app rfl (.tmp 62) (.tmp 66) rfl w9.heap.size v2 32 _ rfl F2.out _ 1 1 (fun _ => r) rfl F6.out (by decide) (by decide) HB.out.size ?_
            intro v7 x5 hz
            have ho := hz.out.1
            rw [bl_cat] at ho
            obtain ⟨p7, c7, rfl, hy7, hc7⟩ := Bytes.own ho (fun i hi => bl_get _ _ i hi) CATL.out
            have F7 := Lib.hid (show _ ∧ _ from ⟨hy7, hc7⟩)
            replace F9 := Lib.hid (show _ ∧ _ from ⟨F9.out.1, hz.out.2.2 _ F9.out.2⟩)
            replace HB := Lib.hid (HB.out.trans hz.out.2.1)
            clear F2 F6 ho hy7 hc7 hz
            refine hK.out _ _ (HS0.out _ HB.out) (fun _ => ?_)
            clear hK
            try simp only [List.getElem_toArray, List.getElem_cons_succ, List.getElem_cons_zero, Act.put, List.setIfInBounds_toArray, List.set_cons_zero, List.set_cons_succ]
            refine wpAnyH_ready (rs := [8]) (by kernel_rfl) (by simp) (AllReadyH.cons rfl (fun K hK => ?_) AllReadyH.nil)
            go_simp
            refine (HT0.out _ HB.out p7 c7 F7.out.1 F7.out.2).mono ?_
            rintro e x6 ⟨rfl, hz⟩
            go_wp2_with fail
            replace F9 := Lib.hid (show _ ∧ _ from ⟨F9.out.1, obj_below F9.out.2 hz (Nat.le_refl _)⟩)
            replace F7 := Lib.hid (show _ ∧ _ from ⟨F7.out.1.below hz (Nat.le_refl _), F7.out.2⟩)
            replace HB := Lib.hid (HB.out.trans (hz.mono HB.out.size))
            clear hz
            clear F7
            refine hK.out _ _ (HS0.out _ HB.out) (fun _ => ?_)
            clear hK
            try simp only [List.getElem_toArray, List.getElem_cons_succ, List.getElem_cons_zero, Act.put, List.setIfInBounds_toArray, List.set_cons_zero, List.set_cons_succ]
            refine wpAnyH_ready (rs := [10]) (by kernel_rfl) (by simp) (AllReadyH.cons rfl (fun K hK => ?_) AllReadyH.nil)
            refine st_store rfl (.tmp 18) (.tmp 68) rfl _ f1 rfl rfl F9.out.2 F9.out.1 HB.out ?_
            intro x7 hz
            refine hK.out _ _ (HS0.out _ hz.out.2) (fun _ => ?_)
            refine wpAnyH_done (by kernel_rfl) ?_ _
            clear hK
            try simp only [List.getElem_toArray, List.getElem_cons_succ, List.getElem_cons_zero, Act.put, List.setIfInBounds_toArray, List.set_cons_zero, List.set_cons_succ]
            go_wp2_with fail
            go_meet
            case rel => exact ⟨_, rfl, Lib.hid (H9.out.add hz.out.2 (Nat.le_refl _) _ hz.out.1 (DigC.kept _ _))⟩
        · refine st_dig rfl rfl ?_
          intro x3 hz
          have F9 := Lib.hid (show w9.heap.size ≤ x2.heap.size ∧ _ from ⟨HB.out.size, hz.out.1⟩)
          replace F6 := Lib.hid (F6.out.below hz.out.2 (Nat.le_refl _))
          replace HB := Lib.hid (HB.out.trans (hz.out.2.mono HB.out.size))
          clear hz
          refine hK.out _ _ (HS0.out _ HB.out) (fun _ => ?_)
          clear hK
          try simp only [List.getElem_toArray, List.getElem_cons_succ, List.getElem_cons_zero, Act.put, List.setIfInBounds_toArray, List.set_cons_zero, List.set_cons_succ]
          refine wpAnyH_ready (rs := [2]) (by kernel_rfl) (by simp) (AllReadyH.cons rfl (fun K hK => ?_) AllReadyH.nil)
          refine st_app0 rfl (.tmp 60) (.tmp 61) rfl _ rfl _ 32 32 k rfl (HK0.out.below HB.out (Nat.le_refl _)) (by decide) (by decide) ?_
          intro v2 x4 hz
          have F2 := Lib.hid (own_le hz.out.1 HB.out.size)
          replace F6 := Lib.hid (F6.out.below hz.out.2 (Nat.le_refl _))
          replace F9 := Lib.hid (show _ ∧ _ from ⟨F9.out.1, obj_below F9.out.2 hz.out.2 (Nat.le_refl _)⟩)
          replace HB := Lib.hid (HB.out.trans (hz.out.2.mono HB.out.size))
          clear hz
          refine hK.out _ _ (HS0.out _ HB.out) (fun _ => ?_)
          clear hK
          try simp only [List.getElem_toArray, List.getElem_cons_succ, List.getElem_cons_zero, Act.put, List.setIfInBounds_toArray, List.set_cons_zero, List.set_cons_succ]
          refine wpAnyH_ready (rs := [7]) (by kernel_rfl) (by simp) (AllReadyH.cons rfl (fun K hK => ?_) AllReadyH.nil)
          refine st_app rfl (.tmp 62) (.tmp 66) rfl w9.heap.size v2 32 _ rfl F2.out _ 1 1 (fun _ => r) rfl F6.out (by decide) (by decide) HB.out.size ?_
          intro v7 x5 hz
          have ho := hz.out.1
          rw [bl_cat] at ho
          obtain ⟨p7, c7, rfl, hy7, hc7⟩ := Bytes.own ho (fun i hi => bl_get _ _ i hi) CATL.out
          have F7 := Lib.hid (show _ ∧ _ from ⟨hy7, hc7⟩)
          replace F9 := Lib.hid (show _ ∧ _ from ⟨F9.out.1, hz.out.2.2 _ F9.out.2⟩)
          replace HB := Lib.hid (HB.out.trans hz.out.2.1)
          clear F2 F6 ho hy7 hc7 hz
          refine hK.out _ _ (HS0.out _ HB.out) (fun _ => ?_)
          clear hK
          try simp only [List.getElem_toArray, List.getElem_cons_succ, List.getElem_cons_zero, Act.put, List.setIfInBounds_toArray, List.set_cons_zero, List.set_cons_succ]
          refine wpAnyH_ready (rs := [8]) (by kernel_rfl) (by simp) (AllReadyH.cons rfl (fun K hK => ?_) AllReadyH.nil)
          go_simp
          refine (HT0.out _ HB.out p7 c7 F7.out.1 F7.out.2).mono ?_
          rintro e x6 ⟨rfl, hz⟩
          go_wp2_with fail
          replace F9 := Lib.hid (show _ ∧ _ from ⟨F9.out.1, obj_below F9.out.2 hz (Nat.le_refl _)⟩)
          replace F7 := Lib.hid (show _ ∧ _ from ⟨F7.out.1.below hz (Nat.le_refl _), F7.out.2⟩)
          replace HB := Lib.hid (HB.out.trans (hz.mono HB.out.size))
          clear hz
          clear F7
          refine hK.out _ _ (HS0.out _ HB.out) (fun _ => ?_)
          clear hK
          try simp only [List.getElem_toArray, List.getElem_cons_succ, List.getElem_cons_zero, Act.put, List.setIfInBounds_toArray, List.set_cons_zero, List.set_cons_succ]
          refine wpAnyH_ready (rs := [10]) (by kernel_rfl) (by simp) (AllReadyH.cons rfl (fun K hK => ?_) AllReadyH.nil)
          refine st_store rfl (.tmp 18) (.tmp 68) rfl _ f1 rfl rfl F9.out.2 F9.out.1 HB.out ?_
          intro x7 hz
          refine hK.out _ _ (HS0.out _ hz.out.2) (fun _ => ?_)
          refine wpAnyH_done (by kernel_rfl) ?_ _
          clear hK
          try simp only [List.getElem_toArray, List.getElem_cons_succ, List.getElem_cons_zero, Act.put, List.setIfInBounds_toArray, List.set_cons_zero, List.set_cons_succ]
          go_wp2_with fail
          go_meet
          case rel => exact ⟨_, rfl, Lib.hid (H9.out.add hz.out.2 (Nat.le_refl _) _ hz.out.1 (DigC.kept _ _))⟩
      · refine st_dig rfl rfl ?_
        intro x2 hz
        have F9 := Lib.hid (show w9.heap.size ≤ x1.heap.size ∧ _ from ⟨HB.out.size, hz.out.1⟩)
        replace HB := Lib.hid (HB.out.trans (hz.out.2.mono HB.out.size))
        clear hz
        refine hK.out _ _ (HS0.out _ HB.out) (fun _ => ?_)
        clear hK
        try simp only [List.getElem_toArray, List.getElem_cons_succ, List.getElem_cons_zero, Act.put, List.setIfInBounds_toArray, List.set_cons_zero, List.set_cons_succ]
        refine wpAnyH_ready (rs := [2, 6]) (by kernel_rfl) (by simp) (AllReadyH.cons rfl (fun K hK => ?_) (AllReadyH.cons rfl (fun K hK => ?_) AllReadyH.nil))
        · refine st_app0 rfl (.tmp 60) (.tmp 61) rfl _ rfl _ 32 32 k rfl (HK0.out.below HB.out (Nat.le_refl _)) (by decide) (by decide) ?_
          intro v2 x3 hz
          have F2 := Lib.hid (own_le hz.out.1 HB.out.size)
          replace F9 := Lib.hid (show _ ∧ _ from ⟨F9.out.1, obj_below F9.out.2 hz.out.2 (Nat.le_refl _)⟩)
          replace HB := Lib.hid (HB.out.trans (hz.out.2.mono HB.out.size))
          clear hz
          refine hK.out _ _ (HS0.out _ HB.out) (fun _ => ?_)
          clear hK
          try simp only [List.getElem_toArray, List.getElem_cons_succ, List.getElem_cons_zero, Act.put, List.setIfInBounds_toArray, List.set_cons_zero, List.set_cons_succ]
          refine wpAnyH_ready (rs := [6]) (by kernel_rfl) (by simp) (AllReadyH.cons rfl (fun K hK => ?_) AllReadyH.nil)
          refine st_new1 rfl (.tmp 65) rfl r HBN.out rfl ?_
          intro x4 hz
          have F6 := Lib.hid hz.out.1
          replace F9 := Lib.hid (show _ ∧ _ from ⟨F9.out.1, obj_below F9.out.2 hz.out.2 (Nat.le_refl _)⟩)
          replace F2 := Lib.hid (owns_below F2.out hz.out.2 (Nat.le_refl _))
          replace HB := Lib.hid (HB.out.trans (hz.out.2.mono HB.out.size))
          clear hz
          refine hK.out _ _ (HS0.out _ HB.out) (fun _ => ?_)
          clear hK
          try simp only [List.getElem_toArray, List.getElem_cons_succ, List.getElem_cons_zero, Act.put, List.setIfInBounds_toArray, List.set_cons_zero, List.set_cons_succ]
          refine wpAnyH_ready (rs := [7]) (by kernel_rfl) (by simp) (AllReadyH.cons rfl (fun K hK => ?_) AllReadyH.nil)
          refine st_app rfl (.tmp 62) (.tmp 66) rfl w9.heap.size v2 32 _ rfl F2.out _ 1 1 (fun _ => r) rfl F6.out (by decide) (by decide) HB.out.size ?_
          intro v7 x5 hz
          have ho := hz.out.1
          rw [bl_cat] at ho
          obtain ⟨p7, c7, rfl, hy7, hc7⟩ := Bytes.own ho (fun i hi => bl_get _ _ i hi) CATL.out
          have F7 := Lib.hid (show _ ∧ _ from ⟨hy7, hc7⟩)
          replace F9 := Lib.hid (show _ ∧ _ from ⟨F9.out.1, hz.out.2.2 _ F9.out.2⟩)
          replace HB := Lib.hid (HB.out.trans hz.out.2.1)
          clear F2 F6 ho hy7 hc7 hz
          refine hK.out _ _ (HS0.out _ HB.out) (fun _ => ?_)
          clear hK
          try simp only [List.getElem_toArray, List.getElem_cons_succ, List.getElem_cons_zero, Act.put, List.setIfInBounds_toArray, List.set_cons_zero, List.set_cons_succ]
          refine wpAnyH_ready (rs := [8]) (by kernel_rfl) (by simp) (AllReadyH.cons rfl (fun K hK => ?_) AllReadyH.nil)
          go_simp
          refine (HT0.out _ HB.out p7 c7 F7.out.1 F7.out.2).mono ?_
          rintro e x6 ⟨rfl, hz⟩
          go_wp2_with fail
          replace F9 := Lib.hid (show _ ∧ _ from ⟨F9.out.1, obj_below F9.out.2 hz (Nat.le_refl _)⟩)
          replace F7 := Lib.hid (show _ ∧ _ from ⟨F7.out.1.below hz (Nat.le_refl _), F7.out.2⟩)
          replace HB := Lib.hid (HB.out.trans (hz.mono HB.out.size))
          clear hz
          clear F7
          refine hK.out _ _ (HS0.out _ HB.out) (fun _ => ?_)
          clear hK
          try simp only [List.getElem_toArray, List.getElem_cons_succ, List.getElem_cons_zero, Act.put, List.setIfInBounds_toArray, List.set_cons_zero, List.set_cons_succ]
          refine wpAnyH_ready (rs := [10]) (by kernel_rfl) (by simp) (AllReadyH.cons rfl (fun K hK => ?_) AllReadyH.nil)
          refine st_store rfl (.tmp 18) (.tmp 68) rfl _ f1 rfl rfl F9.out.2 F9.out.1 HB.out ?_
          intro x7 hz
          refine hK.out _ _ (HS0.out _ hz.out.2) (fun _ => ?_)
          refine wpAnyH_done (by kernel_rfl) ?_ _
          clear hK
          try simp only [List.getElem_toArray, List.getElem_cons_succ, List.getElem_cons_zero, Act.put, List.setIfInBounds_toArray, List.set_cons_zero, List.set_cons_succ]
          go_wp2_with fail
          go_meet
          case rel => exact ⟨_, rfl, Lib.hid (H9.out.add hz.out.2 (Nat.le_refl _) _ hz.out.1 (DigC.kept _ _))⟩
        · refine st_new1 rfl (.tmp 65) rfl r HBN.out rfl ?_
          intro x3 hz
          have F6 := Lib.hid hz.out.1
          replace F9 := Lib.hid (show _ ∧ _ from ⟨F9.out.1, obj_below F9.out.2 hz.out.2 (Nat.le_refl _)⟩)
          replace HB := Lib.hid (HB.out.trans (hz.out.2.mono HB.out.size))
          clear hz
          refine hK.out _ _ (HS0.out _ HB.out) (fun _ => ?_)
          clear hK
          try simp only [List.getElem_toArray, List.getElem_cons_succ, List.getElem_cons_zero, Act.put, List.setIfInBounds_toArray, List.set_cons_zero, List.set_cons_succ]
          refine wpAnyH_ready (rs := [2]) (by kernel_rfl) (by simp) (AllReadyH.cons rfl (fun K hK => ?_) AllReadyH.nil)
          refine st_app0 rfl (.tmp 60) (.tmp 61) rfl _ rfl _ 32 32 k rfl (HK0.out.below HB.out (Nat.le_refl _)) (by decide) (by decide) ?_
          intro v2 x4 hz
          have F2 := Lib.hid (own_le hz.out.1 HB.out.size)
          replace F9 := Lib.hid (show _ ∧ _ from ⟨F9.out.1, obj_below F9.out.2 hz.out.2 (Nat.le_refl _)⟩)
          replace F6 := Lib.hid (F6.out.below hz.out.2 (Nat.le_refl _))
          replace HB := Lib.hid (HB.out.trans (hz.out.2.mono HB.out.size))
          clear hz
          refine hK.out _ _ (HS0.out _ HB.out) (fun _ => ?_)
          clear hK
          try simp only [List.getElem_toArray, List.getElem_cons_succ, List.getElem_cons_zero, Act.put, List.setIfInBounds_toArray, List.set_cons_zero, List.set_cons_succ]
          refine wpAnyH_ready (rs := [7]) (by kernel_rfl) (by simp) (AllReadyH.cons rfl (fun K hK => ?_) AllReadyH.nil)
          refine st_app rfl (.tmp 62) (.tmp 66) rfl w9.heap.size v2 32 _ rfl F2.out _ 1 1 (fun _ => r) rfl F6.out (by decide) (by decide) HB.out.size ?_
          intro v7 x5 hz
          have ho := hz.out.1
          rw [bl_cat] at ho
          obtain ⟨p7, c7, rfl, hy7, hc7⟩ := Bytes.own ho (fun i hi => bl_get _ _ i hi) CATL.out
          have F7 := Lib.hid (show _ ∧ _ from ⟨hy7, hc7⟩)
          replace F9 := Lib.hid (show _ ∧ _ from ⟨F9.out.1, hz.out.2.2 _ F9.out.2⟩)
          replace HB := Lib.hid (HB.out.trans hz.out.2.1)
          clear F2 F6 ho hy7 hc7 hz
          refine hK.out _ _ (HS0.out _ HB.out) (fun _ => ?_)
          clear hK
          try simp only [List.getElem_toArray, List.getElem_cons_succ, List.getElem_cons_zero, Act.put, List.setIfInBounds_toArray, List.set_cons_zero, List.set_cons_succ]
          refine wpAnyH_ready (rs := [8]) (by kernel_rfl) (by simp) (AllReadyH.cons rfl (fun K hK => ?_) AllReadyH.nil)
          go_simp
          refine (HT0.out _ HB.out p7 c7 F7.out.1 F7.out.2).mono ?_
          rintro e x6 ⟨rfl, hz⟩
          go_wp2_with fail
          replace F9 := Lib.hid (show _ ∧ _ from ⟨F9.out.1, obj_below F9.out.2 hz (Nat.le_refl _)⟩)
          replace F7 := Lib.hid (show _ ∧ _ from ⟨F7.out.1.below hz (Nat.le_refl _), F7.out.2⟩)
          replace HB := Lib.hid (HB.out.trans (hz.mono HB.out.size))
          clear hz
          clear F7
          refine hK.out _ _ (HS0.out _ HB.out) (fun _ => ?_)
          clear hK
          try simp only [List.getElem_toArray, List.getElem_cons_succ, List.getElem_cons_zero, Act.put, List.setIfInBounds_toArray, List.set_cons_zero, List.set_cons_succ]
          refine wpAnyH_ready (rs := [10]) (by kernel_rfl) (by simp) (AllReadyH.cons rfl (fun K hK => ?_) AllReadyH.nil)
          refine st_store rfl (.tmp 18) (.tmp 68) rfl _ f1 rfl rfl F9.out.2 F9.out.1 HB.out ?_
          intro x7 hz
          refine hK.out _ _ (HS0.out _ hz.out.2) (fun _ => ?_)
          refine wpAnyH_done (by kernel_rfl) ?_ _
          clear hK
          try simp only [List.getElem_toArray, List.getElem_cons_succ, List.getElem_cons_zero, Act.put, List.setIfInBounds_toArray, List.set_cons_zero, List.set_cons_succ]
          go_wp2_with fail
          go_meet
          case rel => exact ⟨_, rfl, Lib.hid (H9.out.add hz.out.2 (Nat.le_refl _) _ hz.out.1 (DigC.kept _ _))⟩
    · refine st_new1 rfl (.tmp 65) rfl r HBN.out rfl ?_
      intro x1 hz
      have F6 := Lib.hid hz.out.1
      replace HB := Lib.hid (HB.out.trans (hz.out.2.mono HB.out.size))
      clear hz
      refine hK.out _ _ (HS0.out _ HB.out) (fun _ => ?_)
      clear hK
      try simp only [List.getElem_toArray, List.getElem_cons_succ, List.getElem_cons_zero, Act.put, List.setIfInBounds_toArray, List.set_cons_zero, List.set_cons_succ]
      refine wpAnyH_ready (rs := [0, 9]) (by kernel_rfl) (by simp) (AllReadyH.cons rfl (fun K hK => ?_) (AllReadyH.cons rfl (fun K hK => ?_) AllReadyH.nil))
      · refine st_new0 rfl rfl ?_
        intro x2 hz
        replace F6 := Lib.hid (F6.out.below hz.out.2 (Nat.le_refl _))
        replace HB := Lib.hid (HB.out.trans (hz.out.2.mono HB.out.size))
        clear hz
        refine hK.out _ _ (HS0.out _ HB.out) (fun _ => ?_)
        clear hK
        try simp only [List.getElem_toArray, List.getElem_cons_succ, List.getElem_cons_zero, Act.put, List.setIfInBounds_toArray, List.set_cons_zero, List.set_cons_succ]
        refine wpAnyH_ready (rs := [2, 9]) (by kernel_rfl) (by simp) (AllReadyH.cons rfl (fun K hK => ?_) (AllReadyH.cons rfl (fun K hK => ?_) AllReadyH.nil))
        · refine st_app0 rfl (.tmp 60) (.tmp 61) rfl _ rfl _ 32 32 k rfl (HK0.out.below HB.out (Nat.le_refl _)) (by decide) (by decide) ?_
          intro v2 x3 hz
          have F2 := Lib.hid (own_le hz.out.1 HB.out.size)
          replace F6 := Lib.hid (F6.out.below hz.out.2 (Nat.le_refl _))
          replace HB := Lib.hid (HB.out.trans (hz.out.2.mono HB.out.size))
          clear hz
          refine hK.out _ _ (HS0.out _ HB.out) (fun _ => ?_)
          clear hK
          try simp only [List.getElem_toArray, List.getElem_cons_succ, List.getElem_cons_zero, Act.put, List.setIfInBounds_toArray, List.set_cons_zero, List.set_cons_succ]
          refine wpAnyH_ready (rs := [7, 9]) (by kernel_rfl) (by simp) (AllReadyH.cons rfl (fun K hK => ?_) (AllReadyH.cons rfl (fun K hK => ?_) AllReadyH.nil))
          · refine st_app rfl (.tmp 62) (.tmp 66) rfl w9.heap.size v2 32 _ rfl F2.out _ 1 1 (fun _ => r) rfl F6.out (by decide) (by decide) HB.out.size ?_
            intro v7 x4 hz
            have ho := hz.out.1
            rw [bl_cat] at ho
            obtain ⟨p7, c7, rfl, hy7, hc7⟩ := Bytes.own ho (fun i hi => bl_get _ _ i hi) CATL.out
            have F7 := Lib.hid (show _ ∧ _ from ⟨hy7, hc7⟩)
            replace HB := Lib.hid (HB.out.trans hz.out.2.1)
            clear F2 F6 ho hy7 hc7 hz
            refine hK.out _ _ (HS0.out _ HB.out) (fun _ => ?_)
            clear hK
            try simp only [List.getElem_toArray, List.getElem_cons_succ, List.getElem_cons_zero, Act.put, List.setIfInBounds_toArray, List.set_cons_zero, List.set_cons_succ]
            refine wpAnyH_ready (rs := [8, 9]) (by kernel_rfl) (by simp) (AllReadyH.cons rfl (fun K hK => ?_) (AllReadyH.cons rfl (fun K hK => ?_) AllReadyH.nil))
            · go_simp
              refine (HT0.out _ HB.out p7 c7 F7.out.1 F7.out.2).mono ?_
              rintro e x5 ⟨rfl, hz⟩
              go_wp2_with fail
              replace F7 := Lib.hid (show _ ∧ _ from ⟨F7.out.1.below hz (Nat.le_refl _), F7.out.2⟩)
              replace HB := Lib.hid (HB.out.trans (hz.mono HB.out.size))
              clear hz
              clear F7
              refine hK.out _ _ (HS0.out _ HB.out) (fun _ => ?_)
              clear hK
              try simp only [List.getElem_toArray, List.getElem_cons_succ, List.getElem_cons_zero, Act.put, List.setIfInBounds_toArray, List.set_cons_zero, List.set_cons_succ]
              refine wpAnyH_ready (rs := [9]) (by kernel_rfl) (by simp) (AllReadyH.cons rfl (fun K hK => ?_) AllReadyH.nil)
              refine st_dig rfl rfl ?_
              intro x6 hz
              have F9 := Lib.hid (show w9.heap.size ≤ x5.heap.size ∧ _ from ⟨HB.out.size, hz.out.1⟩)
              replace HB := Lib.hid (HB.out.trans (hz.out.2.mono HB.out.size))
              clear hz
              refine hK.out _ _ (HS0.out _ HB.out) (fun _ => ?_)
              clear hK
              try simp only [List.getElem_toArray, List.getElem_cons_succ, List.getElem_cons_zero, Act.put, List.setIfInBounds_toArray, List.set_cons_zero, List.set_cons_succ]
              refine wpAnyH_ready (rs := [10]) (by kernel_rfl) (by simp) (AllReadyH.cons rfl (fun K hK => ?_) AllReadyH.nil)
              refine st_store rfl (.tmp 18) (.tmp 68) rfl _ f1 rfl rfl F9.out.2 F9.out.1 HB.out ?_
              intro x7 hz
              refine hK.out _ _ (HS0.out _ hz.out.2) (fun _ => ?_)
              refine wpAnyH_done (by kernel_rfl) ?_ _
              clear hK
              try simp only [List.getElem_toArray, List.getElem_cons_succ, List.getElem_cons_zero, Act.put, List.setIfInBounds_toArray, List.set_cons_zero, List.set_cons_succ]
              go_wp2_with fail
              go_meet
              case rel => exact ⟨_, rfl, Lib.hid (H9.out.add hz.out.2 (Nat.le_refl _) _ hz.out.1 (DigC.kept _ _))⟩
            · refine st_dig rfl rfl ?_
              intro x5 hz
              have F9 := Lib.hid (show w9.heap.size ≤ x4.heap.size ∧ _ from ⟨HB.out.size, hz.out.1⟩)
              replace F7 := Lib.hid (show _ ∧ _ from ⟨F7.out.1.below hz.out.2 (Nat.le_refl _), F7.out.2⟩)
              replace HB := Lib.hid (HB.out.trans (hz.out.2.mono HB.out.size))
              clear hz
              refine hK.out _ _ (HS0.out _ HB.out) (fun _ => ?_)
              clear hK
              try simp only [List.getElem_toArray, List.getElem_cons_succ, List.getElem_cons_zero, Act.put, List.setIfInBounds_toArray, List.set_cons_zero, List.set_cons_succ]
              refine wpAnyH_ready (rs := [8]) (by kernel_rfl) (by simp) (AllReadyH.cons rfl (fun K hK => ?_) AllReadyH.nil)
              go_simp
              refine (HT0.out _ HB.out p7 c7 F7.out.1 F7.out.2).mono ?_
              rintro e x6 ⟨rfl, hz⟩
              go_wp2_with fail
              replace F7 := Lib.hid (show _ ∧ _ from ⟨F7.out.1.below hz (Nat.le_refl _), F7.out.2⟩)
              replace F9 := Lib.hid (show _ ∧ _ from ⟨F9.out.1, obj_below F9.out.2 hz (Nat.le_refl _)⟩)
              replace HB := Lib.hid (HB.out.trans (hz.mono HB.out.size))
              clear hz
              clear F7
              refine hK.out _ _ (HS0.out _ HB.out) (fun _ => ?_)
              clear hK
              try simp only [List.getElem_toArray, List.getElem_cons_succ, List.getElem_cons_zero, Act.put, List.setIfInBounds_toArray, List.set_cons_zero, List.set_cons_succ]
              refine wpAnyH_ready (rs := [10]) (by kernel_rfl) (by simp) (AllReadyH.cons rfl (fun K hK => ?_) AllReadyH.nil)
              refine st_store rfl (.tmp 18) (.tmp 68) rfl _ f1 rfl rfl F9.out.2 F9.out.1 HB.out ?_
              intro x7 hz
              refine hK.out _ _ (HS0.out _ hz.out.2) (fun _ => ?_)
              refine wpAnyH_done (by kernel_rfl) ?_ _
              clear hK
              try simp only [List.getElem_toArray, List.getElem_cons_succ, List.getElem_cons_zero, Act.put, List.setIfInBounds_toArray, List.set_cons_zero, List.set_cons_succ]
              go_wp2_with fail
              go_meet
              case rel => exact ⟨_, rfl, Lib.hid (H9.out.add hz.out.2 (Nat.le_refl _) _ hz.out.1 (DigC.kept _ _))⟩
          · refine st_dig rfl rfl ?_
            intro x4 hz
            have F9 := Lib.hid (show w9.heap.size ≤ x3.heap.size ∧ _ from ⟨HB.out.size, hz.out.1⟩)
            replace F6 := Lib.hid (F6.out.below hz.out.2 (Nat.le_refl _))
            replace F2 := Lib.hid (owns_below F2.out hz.out.2 (Nat.le_refl _))
            replace HB := Lib.hid (HB.out.trans (hz.out.2.mono HB.out.size))
            clear hz
            refine hK.out _ _ (HS0.out _ HB.out) (fun _ => ?_)
            clear hK
            try simp only [List.getElem_toArray, List.getElem_cons_succ, List.getElem_cons_zero, Act.put, List.setIfInBounds_toArray, List.set_cons_zero, List.set_cons_succ]
            refine wpAnyH_ready (rs := [7]) (by kernel_rfl) (by simp) (AllReadyH.cons rfl (fun K hK => ?_) AllReadyH.nil)
            refine st_app rfl (.tmp 62) (.tmp 66) rfl w9.heap.size v2 32 _ rfl F2.out _ 1 1 (fun _ => r) rfl F6.out (by decide) (by decide) HB.out.size ?_
            intro v7 x5 hz
            have ho := hz.out.1
            rw [bl_cat] at ho
            obtain ⟨p7, c7, rfl, hy7, hc7⟩ := Bytes.own ho (fun i hi => bl_get _ _ i hi) CATL.out
            have F7 := Lib.hid (show _ ∧ _ from ⟨hy7, hc7⟩)
            replace F9 := Lib.hid (show _ ∧ _ from ⟨F9.out.1, hz.out.2.2 _ F9.out.2⟩)
            replace HB := Lib.hid (HB.out.trans hz.out.2.1)
            clear F2 F6 ho hy7 hc7 hz
            refine hK.out _ _ (HS0.out _ HB.out) (fun _ => ?_)
            clear hK
            try simp only [List.getElem_toArray, List.getElem_cons_succ, List.getElem_cons_zero, Act.put, List.setIfInBounds_toArray, List.set_cons_zero, List.set_cons_succ]
            refine wpAnyH_ready (rs := [8]) (by kernel_rfl) (by simp) (AllReadyH.cons rfl (fun K hK => ?_) AllReadyH.nil)
            go_simp
            refine (HT0.out _ HB.out p7 c7 F7.out.1 F7.out.2).mono ?_
            rintro e x6 ⟨rfl, hz⟩
            go_wp2_with fail
            replace F9 := Lib.hid (show _ ∧ _ from ⟨F9.out.1, obj_below F9.out.2 hz (Nat.le_refl _)⟩)
            replace F7 := Lib.hid (show _ ∧ _ from ⟨F7.out.1.below hz (Nat.le_refl _), F7.out.2⟩)
            replace HB := Lib.hid (HB.out.trans (hz.mono HB.out.size))
            clear hz
            clear F7
            refine hK.out _ _ (HS0.out _ HB.out) (fun _ => ?_)
            clear hK
            try simp only [List.getElem_toArray, List.getElem_cons_succ, List.getElem_cons_zero, Act.put, List.setIfInBounds_toArray, List.set_cons_zero, List.set_cons_succ]
            refine wpAnyH_ready (rs := [10]) (by kernel_rfl) (by simp) (AllReadyH.cons rfl (fun K hK => ?_) AllReadyH.nil)
            refine st_store rfl (.tmp 18) (.tmp 68) rfl _ f1 rfl rfl F9.out.2 F9.out.1 HB.out ?_
            intro x7 hz
            refine hK.out _ _ (HS0.out _ hz.out.2) (fun _ => ?_)
            refine wpAnyH_done (by kernel_rfl) ?_ _
            clear hK
            try simp only [List.getElem_toArray, List.getElem_cons_succ, List.getElem_cons_zero, Act.put, List.setIfInBounds_toArray, List.set_cons_zero, List.set_cons_succ]
            go_wp2_with fail
            go_meet
            case rel => exact ⟨_, rfl, Lib.hid (H9.out.add hz.out.2 (Nat.le_refl _) _ hz.out.1 (DigC.kept _ _))⟩
        · refine st_dig rfl rfl ?_
          intro x3 hz
          have F9 := Lib.hid (show w9.heap.size ≤ x2.heap.size ∧ _ from ⟨HB.out.size, hz.out.1⟩)
          replace F6 := Lib.hid (F6.out.below hz.out.2 (Nat.le_refl _))
          replace HB := Lib.hid (HB.out.trans (hz.out.2.mono HB.out.size))
          clear hz
          refine hK.out _ _ (HS0.out _ HB.out) (fun _ => ?_)
          clear hK
          try simp only [List.getElem_toArray, List.getElem_cons_succ, List.getElem_cons_zero, Act.put, List.setIfInBounds_toArray, List.set_cons_zero, List.set_cons_succ]
          refine wpAnyH_ready (rs := [2]) (by kernel_rfl) (by simp) (AllReadyH.cons rfl (fun K hK => ?_) AllReadyH.nil)
          refine st_app0 rfl (.tmp 60) (.tmp 61) rfl _ rfl _ 32 32 k rfl (HK0.out.below HB.out (Nat.le_refl _)) (by decide) (by decide) ?_
          intro v2 x4 hz
          have F2 := Lib.hid (own_le hz.out.1 HB.out.size)
          replace F6 := Lib.hid (F6.out.below hz.out.2 (Nat.le_refl _))
          replace F9 := Lib.hid (show _ ∧ _ from ⟨F9.out.1, obj_below F9.out.2 hz.out.2 (Nat.le_refl _)⟩)
          replace HB := Lib.hid (HB.out.trans (hz.out.2.mono HB.out.size))
          clear hz
          refine hK.out _ _ (HS0.out _ HB.out) (fun _ => ?_)
          clear hK
          try simp only [List.getElem_toArray, List.getElem_cons_succ, List.getElem_cons_zero, Act.put, List.setIfInBounds_toArray, List.set_cons_zero, List.set_cons_succ]
          refine wpAnyH_ready (rs := [7]) (by kernel_rfl) (by simp) (AllReadyH.cons rfl (fun K hK => ?_) AllReadyH.nil)
          refine st_app rfl (.tmp 62) (.tmp 66) rfl w9.heap.size v2 32 _ rfl F2.out _ 1 1 (fun _ => r) rfl F6.out (by decide) (by decide) HB.out.size ?_
          intro v7 x5 hz
          have ho := hz.out.1
          rw [bl_cat] at ho
          obtain ⟨p7, c7, rfl, hy7, hc7⟩ := Bytes.own ho (fun i hi => bl_get _ _ i hi) CATL.out
          have F7 := Lib.hid (show _ ∧ _ from ⟨hy7, hc7⟩)
          replace F9 := Lib.hid (show _ ∧ _ from ⟨F9.out.1, hz.out.2.2 _ F9.out.2⟩)
          replace HB := Lib.hid (HB.out.trans hz.out.2.1)
          clear F2 F6 ho hy7 hc7 hz
          refine hK.out _ _ (HS0.out _ HB.out) (fun _ => ?_)
          clear hK
          try simp only [List.getElem_toArray, List.getElem_cons_succ, List.getElem_cons_zero, Act.put, List.setIfInBounds_toArray, List.set_cons_zero, List.set_cons_succ]
          refine wpAnyH_ready (rs := [8]) (by kernel_rfl) (by simp) (AllReadyH.cons rfl (fun K hK => ?_) AllReadyH.nil)
          go_simp
          refine (HT0.out _ HB.out p7 c7 F7.out.1 F7.out.2).mono ?_
          rintro e x6 ⟨rfl, hz⟩
          go_wp2_with fail
          replace F9 := Lib.hid (show _ ∧ _ from ⟨F9.out.1, obj_below F9.out.2 hz (Nat.le_refl _)⟩)
          replace F7 := Lib.hid (show _ ∧ _ from ⟨F7.out.1.below hz (Nat.le_refl _), F7.out.2⟩)
          replace HB := Lib.hid (HB.out.trans (hz.mono HB.out.size))
          clear hz
          clear F7
          refine hK.out _ _ (HS0.out _ HB.out) (fun _ => ?_)
          clear hK
          try simp only [List.getElem_toArray, List.getElem_cons_succ, List.getElem_cons_zero, Act.put, List.setIfInBounds_toArray, List.set_cons_zero, List.set_cons_succ]
          refine wpAnyH_ready (rs := [10]) (by kernel_rfl) (by simp) (AllReadyH.cons rfl (fun K hK => ?_) AllReadyH.nil)
          refine st_store rfl (.tmp 18) (.tmp 68) rfl _ f1 rfl rfl F9.out.2 F9.out.1 HB.out ?_
          intro x7 hz
          refine hK.out _ _ (HS0.out _ hz.out.2) (fun _ => ?_)
          refine wpAnyH_done (by kernel_rfl) ?_ _
          clear hK
          try simp only [List.getElem_toArray, List.getElem_cons_succ, List.getElem_cons_zero, Act.put, List.setIfInBounds_toArray, List.set_cons_zero, List.set_cons_succ]
          go_wp2_with fail
          go_meet
          case rel => exact ⟨_, rfl, Lib.hid (H9.out.add hz.out.2 (Nat.le_refl _) _ hz.out.1 (DigC.kept _ _))⟩
      · refine st_dig rfl rfl ?_
        intro x2 hz
        have F9 := Lib.hid (show w9.heap.size ≤ x1.heap.size ∧ _ from ⟨HB.out.size, hz.out.1⟩)
        replace F6 := Lib.hid (F6.out.below hz.out.2 (Nat.le_refl _))
        replace HB := Lib.hid (HB.out.trans (hz.out.2.mono HB.out.size))
        clear hz
        refine hK.out _ _ (HS0.out _ HB.out) (fun _ => ?_)
        clear hK
        try simp only [List.getElem_toArray, List.getElem_cons_succ, List.getElem_cons_zero, Act.put, List.setIfInBounds_toArray, List.set_cons_zero, List.set_cons_succ]
        refine wpAnyH_ready (rs := [0]) (by kernel_rfl) (by simp) (AllReadyH.cons rfl (fun K hK => ?_) AllReadyH.nil)
        refine st_new0 rfl rfl ?_
        intro x3 hz
        replace F6 := Lib.hid (F6.out.below hz.out.2 (Nat.le_refl _))
        replace F9 := Lib.hid (show _ ∧ _ from ⟨F9.out.1, obj_below F9.out.2 hz.out.2 (Nat.le_refl _)⟩)
        replace HB := Lib.hid (HB.out.trans (hz.out.2.mono HB.out.size))
        clear hz
        refine hK.out _ _ (HS0.out _ HB.out) (fun _ => ?_)
        clear hK
        try simp only [List.getElem_toArray, List.getElem_cons_succ, List.getElem_cons_zero, Act.put, List.setIfInBounds_toArray, List.set_cons_zero, List.set_cons_succ]
        refine wpAnyH_ready (rs := [2]) (by kernel_rfl) (by simp) (AllReadyH.cons rfl (fun K hK => ?_) AllReadyH.nil)
        refine st_app0 rfl (.tmp 60) (.tmp 61) rfl _ rfl _ 32 32 k rfl (HK0.out.below HB.out (Nat.le_refl _)) (by decide) (by decide) ?_
        intro v2 x4 hz
        have F2 := Lib.hid (own_le hz.out.1 HB.out.size)
        replace F6 := Lib.hid (F6.out.below hz.out.2 (Nat.le_refl _))
        replace F9 := Lib.hid (show _ ∧ _ from ⟨F9.out.1, obj_below F9.out.2 hz.out.2 (Nat.le_refl _)⟩)
        replace HB := Lib.hid (HB.out.trans (hz.out.2.mono HB.out.size))
        clear hz
        refine hK.out _ _ (HS0.out _ HB.out) (fun _ => ?_)
        clear hK
        try simp only [List.getElem_toArray, List.getElem_cons_succ, List.getElem_cons_zero, Act.put, List.setIfInBounds_toArray, List.set_cons_zero, List.set_cons_succ]
        refine wpAnyH_ready (rs := [7]) (by kernel_rfl) (by simp) (AllReadyH.cons rfl (fun K hK => ?_) AllReadyH.nil)
        refine st_app rfl (.tmp 62) (.tmp 66) rfl w9.heap.size v2 32 _ rfl F2.out _ 1 1 (fun _ => r) rfl F6.out (by decide) (by decide) HB.out.size ?_
        intro v7 x5 hz
        have ho := hz.out.1
        rw [bl_cat] at ho
        obtain ⟨p7, c7, rfl, hy7, hc7⟩ := Bytes.own ho (fun i hi => bl_get _ _ i hi) CATL.out
        have F7 := Lib.hid (show _ ∧ _ from ⟨hy7, hc7⟩)
        replace F9 := Lib.hid (show _ ∧ _ from ⟨F9.out.1, hz.out.2.2 _ F9.out.2⟩)
        replace HB := Lib.hid (HB.out.trans hz.out.2.1)
        clear F2 F6 ho hy7 hc7 hz
        refine hK.out _ _ (HS0.out _ HB.out) (fun _ => ?_)
        clear hK
        try simp only [List.getElem_toArray, List.getElem_cons_succ, List.getElem_cons_zero, Act.put, List.setIfInBounds_toArray, List.set_cons_zero, List.set_cons_succ]
        refine wpAnyH_ready (rs := [8]) (by kernel_rfl) (by simp) (AllReadyH.cons rfl (fun K hK => ?_) AllReadyH.nil)
        go_simp
        refine (HT0.out _ HB.out p7 c7 F7.out.1 F7.out.2).mono ?_
        rintro e x6 ⟨rfl, hz⟩
        go_wp2_with fail
        replace F9 := Lib.hid (show _ ∧ _ from ⟨F9.out.1, obj_below F9.out.2 hz (Nat.le_refl _)⟩)
        replace F7 := Lib.hid (show _ ∧ _ from ⟨F7.out.1.below hz (Nat.le_refl _), F7.out.2⟩)
        replace HB := Lib.hid (HB.out.trans (hz.mono HB.out.size))
        clear hz
        clear F7
        refine hK.out _ _ (HS0.out _ HB.out) (fun _ => ?_)
        clear hK
        try simp only [List.getElem_toArray, List.getElem_cons_succ, List.getElem_cons_zero, Act.put, List.setIfInBounds_toArray, List.set_cons_zero, List.set_cons_succ]
        refine wpAnyH_ready (rs := [10]) (by kernel_rfl) (by simp) (AllReadyH.cons rfl (fun K hK => ?_) AllReadyH.nil)
        refine st_store rfl (.tmp 18) (.tmp 68) rfl _ f1 rfl rfl F9.out.2 F9.out.1 HB.out ?_
        intro x7 hz
        refine hK.out _ _ (HS0.out _ hz.out.2) (fun _ => ?_)
        refine wpAnyH_done (by kernel_rfl) ?_ _
        clear hK
        try simp only [List.getElem_toArray, List.getElem_cons_succ, List.getElem_cons_zero, Act.put, List.setIfInBounds_toArray, List.set_cons_zero, List.set_cons_succ]
        go_wp2_with fail
        go_meet
        case rel => exact ⟨_, rfl, Lib.hid (H9.out.add hz.out.2 (Nat.le_refl _) _ hz.out.1 (DigC.kept _ _))⟩
    · refine st_dig rfl rfl ?_
      intro x1 hz
      have F9 := Lib.hid (show w9.heap.size ≤ x0.heap.size ∧ _ from ⟨HB.out.size, hz.out.1⟩)
      replace HB := Lib.hid (HB.out.trans (hz.out.2.mono HB.out.size))
      clear hz
      refine hK.out _ _ (HS0.out _ HB.out) (fun _ => ?_)
      clear hK
      try simp only [List.getElem_toArray, List.getElem_cons_succ, List.getElem_cons_zero, Act.put, List.setIfInBounds_toArray, List.set_cons_zero, List.set_cons_succ]
      refine wpAnyH_ready (rs := [0, 6]) (by kernel_rfl) (by simp) (AllReadyH.cons rfl (fun K hK => ?_) (AllReadyH.cons rfl (fun K hK => ?_) AllReadyH.nil))
      · refine st_new0 rfl rfl ?_
        intro x2 hz
        replace F9 := Lib.hid (show _ ∧ _ from ⟨F9.out.1, obj_below F9.out.2 hz.out.2 (Nat.le_refl _)⟩)
        replace HB := Lib.hid (HB.out.trans (hz.out.2.mono HB.out.size))
        clear hz
        refine hK.out _ _ (HS0.out _ HB.out) (fun _ => ?_)
        clear hK
        try simp only [List.getElem_toArray, List.getElem_cons_succ, List.getElem_cons_zero, Act.put, List.setIfInBounds_toArray, List.set_cons_zero, List.set_cons_succ]
        refine wpAnyH_ready (rs := [2, 6]) (by kernel_rfl) (by simp) (AllReadyH.cons rfl (fun K hK => ?_) (AllReadyH.cons rfl (fun K hK => ?_) AllReadyH.nil))
        · refine st_app0 rfl (.tmp 60) (.tmp 61) rfl _ rfl _ 32 32 k rfl (HK0.out.below HB.out (Nat.le_refl _)) (by decide) (by decide) ?_
          intro v2 x3 hz
          have F2 := Lib.hid (own_le hz.out.1 HB.out.size)
          replace F9 := Lib.hid (show _ ∧ _ from ⟨F9.out.1, obj_below F9.out.2 hz.out.2 (Nat.le_refl _)⟩)
          replace HB := Lib.hid (HB.out.trans (hz.out.2.mono HB.out.size))
          clear hz
          refine hK.out _ _ (HS0.out _ HB.out) (fun _ => ?_)
          clear hK
          try simp only [List.getElem_toArray, List.getElem_cons_succ, List.getElem_cons_zero, Act.put, List.setIfInBounds_toArray, List.set_cons_zero, List.set_cons_succ]
          refine wpAnyH_ready (rs := [6]) (by kernel_rfl) (by simp) (AllReadyH.cons rfl (fun K hK => ?_) AllReadyH.nil)
          refine st_new1 rfl (.tmp 65) rfl r HBN.out rfl ?_
          intro x4 hz
          have F6 := Lib.hid hz.out.1
          replace F9 := Lib.hid (show _ ∧ _ from ⟨F9.out.1, obj_below F9.out.2 hz.out.2 (Nat.le_refl _)⟩)
          replace F2 := Lib.hid (owns_below F2.out hz.out.2 (Nat.le_refl _))
          replace HB := Lib.hid (HB.out.trans (hz.out.2.mono HB.out.size))
          clear hz
          refine hK.out _ _ (HS0.out _ HB.out) (fun _ => ?_)
          clear hK
          try simp only [List.getElem_toArray, List.getElem_cons_succ, List.getElem_cons_zero, Act.put, List.setIfInBounds_toArray, List.set_cons_zero, List.set_cons_succ]
          refine wpAnyH_ready (rs := [7]) (by kernel_rfl) (by simp) (AllReadyH.cons rfl (fun K hK => ?_) AllReadyH.nil)
          refine st_app rfl (.tmp 62) (.tmp 66) rfl w9.heap.size v2 32 _ rfl F2.out _ 1 1 (fun _ => r) rfl F6.out (by decide) (by decide) HB.out.size ?_
          intro v7 x5 hz
          have ho := hz.out.1
          rw [bl_cat] at ho
          obtain ⟨p7, c7, rfl, hy7, hc7⟩ := Bytes.own ho (fun i hi => bl_get _ _ i hi) CATL.out
          have F7 := Lib.hid (show _ ∧ _ from ⟨hy7, hc7⟩)
          replace F9 := Lib.hid (show _ ∧ _ from ⟨F9.out.1, hz.out.2.2 _ F9.out.2⟩)
          replace HB := Lib.hid (HB.out.trans hz.out.2.1)
          clear F2 F6 ho hy7 hc7 hz
          refine hK.out _ _ (HS0.out _ HB.out) (fun _ => ?_)
          clear hK
          try simp only [List.getElem_toArray, List.getElem_cons_succ, List.getElem_cons_zero, Act.put, List.setIfInBounds_toArray, List.set_cons_zero, List.set_cons_succ]
          refine wpAnyH_ready (rs := [8]) (by kernel_rfl) (by simp) (AllReadyH.cons rfl (fun K hK => ?_) AllReadyH.nil)
          go_simp
          refine (HT0.out _ HB.out p7 c7 F7.out.1 F7.out.2).mono ?_
          rintro e x6 ⟨rfl, hz⟩
          go_wp2_with fail
          replace F9 := Lib.hid (show _ ∧ _ from ⟨F9.out.1, obj_below F9.out.2 hz (Nat.le_refl _)⟩)
          replace F7 := Lib.hid (show _ ∧ _ from ⟨F7.out.1.below hz (Nat.le_refl _), F7.out.2⟩)
          replace HB := Lib.hid (HB.out.trans (hz.mono HB.out.size))
          clear hz
          clear F7
          refine hK.out _ _ (HS0.out _ HB.out) (fun _ => ?_)
          clear hK
          try simp only [List.getElem_toArray, List.getElem_cons_succ, List.getElem_cons_zero, Act.put, List.setIfInBounds_toArray, List.set_cons_zero, List.set_cons_succ]
          refine wpAnyH_ready (rs := [10]) (by kernel_rfl) (by simp) (AllReadyH.cons rfl (fun K hK => ?_) AllReadyH.nil)
          refine st_store rfl (.tmp 18) (.tmp 68) rfl _ f1 rfl rfl F9.out.2 F9.out.1 HB.out ?_
          intro x7 hz
          refine hK.out _ _ (HS0.out _ hz.out.2) (fun _ => ?_)
          refine wpAnyH_done (by kernel_rfl) ?_ _
          clear hK
          try simp only [List.getElem_toArray, List.getElem_cons_succ, List.getElem_cons_zero, Act.put, List.setIfInBounds_toArray, List.set_cons_zero, List.set_cons_succ]
          go_wp2_with fail
          go_meet
          case rel => exact ⟨_, rfl, Lib.hid (H9.out.add hz.out.2 (Nat.le_refl _) _ hz.out.1 (DigC.kept _ _))⟩
        · refine st_new1 rfl (.tmp 65) rfl r HBN.out rfl ?_
          intro x3 hz
          have F6 := Lib.hid hz.out.1
          replace F9 := Lib.hid (show _ ∧ _ from ⟨F9.out.1, obj_below F9.out.2 hz.out.2 (Nat.le_refl _)⟩)
          replace HB := Lib.hid (HB.out.trans (hz.out.2.mono HB.out.size))
          clear hz
          refine hK.out _ _ (HS0.out _ HB.out) (fun _ => ?_)
          clear hK
          try simp only [List.getElem_toArray, List.getElem_cons_succ, List.getElem_cons_zero, Act.put, List.setIfInBounds_toArray, List.set_cons_zero, List.set_cons_succ]
          refine wpAnyH_ready (rs := [2]) (by kernel_rfl) (by simp) (AllReadyH.cons rfl (fun K hK => ?_) AllReadyH.nil)
          refine st_app0 rfl (.tmp 60) (.tmp 61) rfl _ rfl _ 32 32 k rfl (HK0.out.below HB.out (Nat.le_refl _)) (by decide) (by decide) ?_
          intro v2 x4 hz
          have F2 := Lib.hid (own_le hz.out.1 HB.out.size)
          replace F9 := Lib.hid (show _ ∧ _ from ⟨F9.out.1, obj_below F9.out.2 hz.out.2 (Nat.le_refl _)⟩)
          replace F6 := Lib.hid (F6.out.below hz.out.2 (Nat.le_refl _))
          replace HB := Lib.hid (HB.out.trans (hz.out.2.mono HB.out.size))
          clear hz
          refine hK.out _ _ (HS0.out _ HB.out) (fun _ => ?_)
          clear hK
          try simp only [List.getElem_toArray, List.getElem_cons_succ, List.getElem_cons_zero, Act.put, List.setIfInBounds_toArray, List.set_cons_zero, List.set_cons_succ]
          refine wpAnyH_ready (rs := [7]) (by kernel_rfl) (by simp) (AllReadyH.cons rfl (fun K hK => ?_) AllReadyH.nil)
          refine st_app rfl (.tmp 62) (.tmp 66) rfl w9.heap.size v2 32 _ rfl F2.out _ 1 1 (fun _ => r) rfl F6.out (by decide) (by decide) HB.out.size ?_
          intro v7 x5 hz
          have ho := hz.out.1
          rw [bl_cat] at ho
          obtain ⟨p7, c7, rfl, hy7, hc7⟩ := Bytes.own ho (fun i hi => bl_get _ _ i hi) CATL.out
          have F7 := Lib.hid (show _ ∧ _ from ⟨hy7, hc7⟩)
          replace F9 := Lib.hid (show _ ∧ _ from ⟨F9.out.1, hz.out.2.2 _ F9.out.2⟩)
          replace HB := Lib.hid (HB.out.trans hz.out.2.1)
          clear F2 F6 ho hy7 hc7 hz
          refine hK.out _ _ (HS0.out _ HB.out) (fun _ => ?_)
          clear hK
          try simp only [List.getElem_toArray, List.getElem_cons_succ, List.getElem_cons_zero, Act.put, List.setIfInBounds_toArray, List.set_cons_zero, List.set_cons_succ]
          refine wpAnyH_ready (rs := [8]) (by kernel_rfl) (by simp) (AllReadyH.cons rfl (fun K hK => ?_) AllReadyH.nil)
          go_simp
          refine (HT0.out _ HB.out p7 c7 F7.out.1 F7.out.2).mono ?_
          rintro e x6 ⟨rfl, hz⟩
          go_wp2_with fail
          replace F9 := Lib.hid (show _ ∧ _ from ⟨F9.out.1, obj_below F9.out.2 hz (Nat.le_refl _)⟩)
          replace F7 := Lib.hid (show _ ∧ _ from ⟨F7.out.1.below hz (Nat.le_refl _), F7.out.2⟩)
          replace HB := Lib.hid (HB.out.trans (hz.mono HB.out.size))
          clear hz
          clear F7
          refine hK.out _ _ (HS0.out _ HB.out) (fun _ => ?_)
          clear hK
          try simp only [List.getElem_toArray, List.getElem_cons_succ, List.getElem_cons_zero, Act.put, List.setIfInBounds_toArray, List.set_cons_zero, List.set_cons_succ]
          refine wpAnyH_ready (rs := [10]) (by kernel_rfl) (by simp) (AllReadyH.cons rfl (fun K hK => ?_) AllReadyH.nil)
          refine st_store rfl (.tmp 18) (.tmp 68) rfl _ f1 rfl rfl F9.out.2 F9.out.1 HB.out ?_
          intro x7 hz
          refine hK.out _ _ (HS0.out _ hz.out.2) (fun _ => ?_)
          refine wpAnyH_done (by kernel_rfl) ?_ _
          clear hK
          try simp only [List.getElem_toArray, List.getElem_cons_succ, List.getElem_cons_zero, Act.put, List.setIfInBounds_toArray, List.set_cons_zero, List.set_cons_succ]
          go_wp2_with fail
          go_meet
          case rel => exact ⟨_, rfl, Lib.hid (H9.out.add hz.out.2 (Nat.le_refl _) _ hz.out.1 (DigC.kept _ _))⟩
      · refine st_new1 rfl (.tmp 65) rfl r HBN.out rfl ?_
        intro x2 hz
        have F6 := Lib.hid hz.out.1
        replace F9 := Lib.hid (show _ ∧ _ from ⟨F9.out.1, obj_below F9.out.2 hz.out.2 (Nat.le_refl _)⟩)
        replace HB := Lib.hid (HB.out.trans (hz.out.2.mono HB.out.size))
        clear hz
        refine hK.out _ _ (HS0.out _ HB.out) (fun _ => ?_)
        clear hK
        try simp only [List.getElem_toArray, List.getElem_cons_succ, List.getElem_cons_zero, Act.put, List.setIfInBounds_toArray, List.set_cons_zero, List.set_cons_succ]
        refine wpAnyH_ready (rs := [0]) (by kernel_rfl) (by simp) (AllReadyH.cons rfl (fun K hK => ?_) AllReadyH.nil)
        refine st_new0 rfl rfl ?_
        intro x3 hz
        replace F9 := Lib.hid (show _ ∧ _ from ⟨F9.out.1, obj_below F9.out.2 hz.out.2 (Nat.le_refl _)⟩)
        replace F6 := Lib.hid (F6.out.below hz.out.2 (Nat.le_refl _))
        replace HB := Lib.hid (HB.out.trans (hz.out.2.mono HB.out.size))
        clear hz
        refine hK.out _ _ (HS0.out _ HB.out) (fun _ => ?_)
        clear hK
        try simp only [List.getElem_toArray, List.getElem_cons_succ, List.getElem_cons_zero, Act.put, List.setIfInBounds_toArray, List.set_cons_zero, List.set_cons_succ]
        refine wpAnyH_ready (rs := [2]) (by kernel_rfl) (by simp) (AllReadyH.cons rfl (fun K hK => ?_) AllReadyH.nil)
        refine st_app0 rfl (.tmp 60) (.tmp 61) rfl _ rfl _ 32 32 k rfl (HK0.out.below HB.out (Nat.le_refl _)) (by decide) (by decide) ?_
        intro v2 x4 hz
        have F2 := Lib.hid (own_le hz.out.1 HB.out.size)
        replace F9 := Lib.hid (show _ ∧ _ from ⟨F9.out.1, obj_below F9.out.2 hz.out.2 (Nat.le_refl _)⟩)
        replace F6 := Lib.hid (F6.out.below hz.out.2 (Nat.le_refl _))
        replace HB := Lib.hid (HB.out.trans (hz.out.2.mono HB.out.size))
        clear hz
        refine hK.out _ _ (HS0.out _ HB.out) (fun _ => ?_)
        clear hK
        try simp only [List.getElem_toArray, List.getElem_cons_succ, List.getElem_cons_zero, Act.put, List.setIfInBounds_toArray, List.set_cons_zero, List.set_cons_succ]
        refine wpAnyH_ready (rs := [7]) (by kernel_rfl) (by simp) (AllReadyH.cons rfl (fun K hK => ?_) AllReadyH.nil)
        refine st_app rfl (.tmp 62) (.tmp 66) rfl w9.heap.size v2 32 _ rfl F2.out _ 1 1 (fun _ => r) rfl F6.out (by decide) (by decide) HB.out.size ?_
        intro v7 x5 hz
        have ho := hz.out.1
        rw [bl_cat] at ho
        obtain ⟨p7, c7, rfl, hy7, hc7⟩ := Bytes.own ho (fun i hi => bl_get _ _ i hi) CATL.out
        have F7 := Lib.hid (show _ ∧ _ from ⟨hy7, hc7⟩)
        replace F9 := Lib.hid (show _ ∧ _ from ⟨F9.out.1, hz.out.2.2 _ F9.out.2⟩)
        replace HB := Lib.hid (HB.out.trans hz.out.2.1)
        clear F2 F6 ho hy7 hc7 hz
        refine hK.out _ _ (HS0.out _ HB.out) (fun _ => ?_)
        clear hK
        try simp only [List.getElem_toArray, List.getElem_cons_succ, List.getElem_cons_zero, Act.put, List.setIfInBounds_toArray, List.set_cons_zero, List.set_cons_succ]
        refine wpAnyH_ready (rs := [8]) (by kernel_rfl) (by simp) (AllReadyH.cons rfl (fun K hK => ?_) AllReadyH.nil)
        go_simp
        refine (HT0.out _ HB.out p7 c7 F7.out.1 F7.out.2).mono ?_
        rintro e x6 ⟨rfl, hz⟩
        go_wp2_with fail
        replace F9 := Lib.hid (show _ ∧ _ from ⟨F9.out.1, obj_below F9.out.2 hz (Nat.le_refl _)⟩)
        replace F7 := Lib.hid (show _ ∧ _ from ⟨F7.out.1.below hz (Nat.le_refl _), F7.out.2⟩)
        replace HB := Lib.hid (HB.out.trans (hz.mono HB.out.size))
        clear hz
        clear F7
        refine hK.out _ _ (HS0.out _ HB.out) (fun _ => ?_)
        clear hK
        try simp only [List.getElem_toArray, List.getElem_cons_succ, List.getElem_cons_zero, Act.put, List.setIfInBounds_toArray, List.set_cons_zero, List.set_cons_succ]
        refine wpAnyH_ready (rs := [10]) (by kernel_rfl) (by simp) (AllReadyH.cons rfl (fun K hK => ?_) AllReadyH.nil)
        refine st_store rfl (.tmp 18) (.tmp 68) rfl _ f1 rfl rfl F9.out.2 F9.out.1 HB.out ?_
        intro x7 hz
        refine hK.out _ _ (HS0.out _ hz.out.2) (fun _ => ?_)
        refine wpAnyH_done (by kernel_rfl) ?_ _
        clear hK
        try simp only [List.getElem_toArray, List.getElem_cons_succ, List.getElem_cons_zero, Act.put, List.setIfInBounds_toArray, List.set_cons_zero, List.set_cons_succ]
        go_wp2_with fail
        go_meet
        case rel => exact ⟨_, rfl, Lib.hid (H9.out.add hz.out.2 (Nat.le_refl _) _ hz.out.1 (DigC.kept _ _))⟩
  case rest =>
    generalize wc = w10 at *
    obtain ⟨B10, rfl, H10⟩ := hcut
    clear H9 T1
    have hs_s := H10.out.side (.tail _ (.tail _ (.tail _ (.head _))))
    clear HBN CATL
    have HBN := HQB
    have CATL := CA2
    clear hs_s
    go_upto_region 10 with fail
    go_cut [19] from 69 to 78 (fun v wx => ∃ B : Nat, v = .pointer (some ⟨B, 0, none⟩) ∧ Hid (Hold w (DigC B f2 :: (DigC B10 f1 :: [DigC B9 f1, DigC B7 k, SideC w3.heap.size r c x, DigC w.heap.size g])) wx))
    case first =>
      have hk := H10.out.dig (.tail _ (.tail _ (.head _)))
      have HK0 := Lib.hid (show Bytes w10 (some ⟨B7, 0, none⟩) 32 32 k from ⟨fun _ => ⟨B7, 0, rfl, DigC.lt hk, hk.reads⟩, KL.out, Nat.le_refl _, fun e => by cases e⟩)
      have hsl := fun W => run_slice_key W B7
      have HS0 := Lib.hid (fun (W : World) (hb : Below w10.heap.size w10 W) => show W.cell? ⟨w3.heap.size, 0, none⟩ = some (.int .i64 (r : Int)) ∧ Below w10.heap.size w10 W from ⟨((H10.out.next hb (Nat.le_refl _)).side (.tail _ (.tail _ (.tail _ (.head _))))).1, hb⟩)
      have HT0 := Lib.hid (fun (W : World) (hb : Below w10.heap.size w10 W) p cap hy hc => T2.out W (H10.out.next hb (Nat.le_refl _)).below p cap hy hc)
      clear hk
      refine wp_region_held_drew (S := fun W => W.cell? ⟨w3.heap.size, 0, none⟩ = some (.int .i64 (r : Int)) ∧ Below w10.heap.size w10 W) (by kernel_rfl) (HS0.out _ (Below.refl _ _).drew) (fun hH => ?_)
      refine wpAnyH_take (i := 1) (v := ?v1r10) rfl (by kernel_rfl) (by kernel_rfl) (by kernel_rfl) (fun _ _ _ h => h) (Or.inl ⟨by rfl, ?y1r10⟩) hH ?_
      case y1r10 => intro W hSw; go_simp; try with_reducible rfl
      try simp only [List.getElem_toArray, List.getElem_cons_succ, List.getElem_cons_zero, Act.put, List.setIfInBounds_toArray, List.set_cons_zero, List.set_cons_succ]
      refine wpAnyH_take (i := 3) (v := ?v3r10) rfl (by kernel_rfl) (by kernel_rfl) (by kernel_rfl) (fun _ _ _ h => h) (Or.inl ⟨by rfl, ?y3r10⟩) hH ?_
      case y3r10 => intro W hSw; go_simp; try with_reducible rfl
      try simp only [List.getElem_toArray, List.getElem_cons_succ, List.getElem_cons_zero, Act.put, List.setIfInBounds_toArray, List.set_cons_zero, List.set_cons_succ]
      refine wpAnyH_take (i := 4) (v := ?v4r10) rfl (by kernel_rfl) (by kernel_rfl) (by kernel_rfl) (fun _ _ _ h => h) (Or.inl ⟨by rfl, ?y4r10⟩) hH ?_
      case y4r10 => intro W hSw; go_simp; try with_reducible rfl
      try simp only [List.getElem_toArray, List.getElem_cons_succ, List.getElem_cons_zero, Act.put, List.setIfInBounds_toArray, List.set_cons_zero, List.set_cons_succ]
      refine wpAnyH_take (i := 5) (v := ?v5r10) rfl (by kernel_rfl) (by kernel_rfl) (by kernel_rfl) (fun _ _ _ h => h) (Or.inl ⟨by rfl, ?y5r10⟩) hH ?_
      case y5r10 => intro W hSw; go_simp; try with_reducible rfl
      try simp only [List.getElem_toArray, List.getElem_cons_succ, List.getElem_cons_zero, Act.put, List.setIfInBounds_toArray, List.set_cons_zero, List.set_cons_succ]
      refine wpAnyH_take (i := 6) (v := ?v6r10) rfl (by kernel_rfl) (by kernel_rfl) (by kernel_rfl) (fun _ _ _ h => h) (Or.inl ⟨by rfl, ?y6r10⟩) hH ?_
      case y6r10 => intro W hSw; go_simp; try with_reducible rfl
      try simp only [List.getElem_toArray, List.getElem_cons_succ, List.getElem_cons_zero, Act.put, List.setIfInBounds_toArray, List.set_cons_zero, List.set_cons_succ]
      have HB := Lib.hid hH.2
      clear hH
      generalize w10.drew = x0 at *
      refine wpAnyH_ready (rs := [0, 7, 10]) (by kernel_rfl) (by simp) (AllReadyH.cons rfl (fun K hK => ?_) (AllReadyH.cons rfl (fun K hK => ?_) (AllReadyH.cons rfl (fun K hK => ?_) AllReadyH.nil)))
      · refine st_new0 rfl rfl ?_
        intro x1 hz
        replace HB := Lib.hid (HB.out.trans (hz.out.2.mono HB.out.size))
        clear hz
        refine hK.out _ _ (HS0.out _ HB.out) (fun _ => ?_)
        clear hK
        try simp only [List.getElem_toArray, List.getElem_cons_succ, List.getElem_cons_zero, Act.put, List.setIfInBounds_toArray, List.set_cons_zero, List.set_cons_succ]
        refine wpAnyH_ready (rs := [2, 7, 10]) (by kernel_rfl) (by simp) (AllReadyH.cons rfl (fun K hK => ?_) (AllReadyH.cons rfl (fun K hK => ?_) (AllReadyH.cons rfl (fun K hK => ?_) AllReadyH.nil)))
        · refine st_app0 rfl (.tmp 69) (.tmp 70) rfl _ rfl _ 32 32 k rfl (HK0.out.below HB.out (Nat.le_refl _)) (by decide) (by decide) ?_
          intro v2 x2 hz
          have F2 := Lib.hid (own_le hz.out.1 HB.out.size)
          replace HB := Lib.hid (HB.out.trans (hz.out.2.mono HB.out.size))
          clear hz
          refine hK.out _ _ (HS0.out _ HB.out) (fun _ => ?_)
          clear hK
          try simp only [List.getElem_toArray, List.getElem_cons_succ, List.getElem_cons_zero, Act.put, List.setIfInBounds_toArray, List.set_cons_zero, List.set_cons_succ]
          refine wpAnyH_ready (rs := [7, 10]) (by kernel_rfl) (by simp) (AllReadyH.cons rfl (fun K hK => ?_) (AllReadyH.cons rfl (fun K hK => ?_) AllReadyH.nil))
          · refine st_new1 rfl (.tmp 75) rfl q HBN.out rfl ?_
            intro x3 hz
            have F6 := Lib.hid hz.out.1
            replace F2 := Lib.hid (owns_below F2.out hz.out.2 (Nat.le_refl _))
            replace HB := Lib.hid (HB.out.trans (hz.out.2.mono HB.out.size))
            clear hz
            refine hK.out _ _ (HS0.out _ HB.out) (fun _ => ?_)
            clear hK
            try simp only [List.getElem_toArray, List.getElem_cons_succ, List.getElem_cons_zero, Act.put, List.setIfInBounds_toArray, List.set_cons_zero, List.set_cons_succ]
            refine wpAnyH_ready (rs := [8, 10]) (by kernel_rfl) (by simp) (AllReadyH.cons rfl (fun K hK => ?_) (AllReadyH.cons rfl (fun K hK => ?_) AllReadyH.nil))
            · refine st_app rfl (.tmp 71) (.tmp 76) rfl w10.heap.size v2 32 _ rfl F2.out _ 1 1 (fun _ => q) rfl F6.out (by decide) (by decide) HB.out.size ?_
              intro v7 x4 hz
              have ho := hz.out.1
              rw [bl_cat] at ho
              obtain ⟨p7, c7, rfl, hy7, hc7⟩ := Bytes.own ho (fun i hi => bl_get _ _ i hi) CATL.out
              have F7 := Lib.hid (show _ ∧ _ from ⟨hy7, hc7⟩)
              replace HB := Lib.hid (HB.out.trans hz.out.2.1)
              clear F2 F6 ho hy7 hc7 hz
              refine hK.out _ _ (HS0.out _ HB.out) (fun _ => ?_)
              clear hK
              try simp only [List.getElem_toArray, List.getElem_cons_succ, List.getElem_cons_zero, Act.put, List.setIfInBounds_toArray, List.set_cons_zero, List.set_cons_succ]
              refine wpAnyH_ready (rs := [9, 10]) (by kernel_rfl) (by simp) (AllReadyH.cons rfl (fun K hK => ?_) (AllReadyH.cons rfl (fun K hK => ?_) AllReadyH.nil))
              · go_simp
                refine (HT0.out _ HB.out p7 c7 F7.out.1 F7.out.2).mono ?_
                rintro e x5 ⟨rfl, hz⟩
                go_wp2_with fail
                replace F7 := Lib.hid (show _ ∧ _ from ⟨F7.out.1.below hz (Nat.le_refl _), F7.out.2⟩)
                replace HB := Lib.hid (HB.out.trans (hz.mono HB.out.size))
                clear hz
                clear F7
                refine hK.out _ _ (HS0.out _ HB.out) (fun _ => ?_)
                clear hK
                try simp only [List.getElem_toArray, List.getElem_cons_succ, List.getElem_cons_zero, Act.put, List.setIfInBounds_toArray, List.set_cons_zero, List.set_cons_succ]
                refine wpAnyH_ready (rs := [10]) (by kernel_rfl) (by simp) (AllReadyH.cons rfl (fun K hK => ?_) AllReadyH.nil)
                refine st_dig rfl rfl ?_
                intro x6 hz
                have F9 := Lib.hid (show w10.heap.size ≤ x5.heap.size ∧ _ from ⟨HB.out.size, hz.out.1⟩)
                replace HB := Lib.hid (HB.out.trans (hz.out.2.mono HB.out.size))
                clear hz
                refine hK.out _ _ (HS0.out _ HB.out) (fun _ => ?_)
                clear hK
                try simp only [List.getElem_toArray, List.getElem_cons_succ, List.getElem_cons_zero, Act.put, List.setIfInBounds_toArray, List.set_cons_zero, List.set_cons_succ]
                refine wpAnyH_ready (rs := [11]) (by kernel_rfl) (by simp) (AllReadyH.cons rfl (fun K hK => ?_) AllReadyH.nil)
                refine st_store rfl (.tmp 19) (.tmp 78) rfl _ f2 rfl rfl F9.out.2 F9.out.1 HB.out ?_
                intro x7 hz
                refine hK.out _ _ (HS0.out _ hz.out.2) (fun _ => ?_)
                refine wpAnyH_done (by kernel_rfl) ?_ _
                clear hK
                try simp only [List.getElem_toArray, List.getElem_cons_succ, List.getElem_cons_zero, Act.put, List.setIfInBounds_toArray, List.set_cons_zero, List.set_cons_succ]
                go_wp2_with fail
                go_meet
                case rel => exact ⟨_, rfl, Lib.hid (H10.out.add hz.out.2 (Nat.le_refl _) _ hz.out.1 (DigC.kept _ _))⟩
              · refine st_dig rfl rfl ?_
                intro x5 hz
                have F9 := Lib.hid (show w10.heap.size ≤ x4.heap.size ∧ _ from ⟨HB.out.size, hz.out.1⟩)
                replace F7 := Lib.hid (show _ ∧ _ from ⟨F7.out.1.below hz.out.2 (Nat.le_refl _), F7.out.2⟩)
                replace HB := Lib.hid (HB.out.trans (hz.out.2.mono HB.out.size))
                clear hz
                refine hK.out _ _ (HS0.out _ HB.out) (fun _ => ?_)
                clear hK
                try simp only [List.getElem_toArray, List.getElem_cons_succ, List.getElem_cons_zero, Act.put, List.setIfInBounds_toArray, List.set_cons_zero, List.set_cons_succ]
                refine wpAnyH_ready (rs := [9]) (by kernel_rfl) (by simp) (AllReadyH.cons rfl (fun K hK => ?_) AllReadyH.nil)
                go_simp
                refine (HT0.out _ HB.out p7 c7 F7.out.1 F7.out.2).mono ?_
                rintro e x6 ⟨rfl, hz⟩
                go_wp2_with fail
                replace F7 := Lib.hid (show _ ∧ _ from ⟨F7.out.1.below hz (Nat.le_refl _), F7.out.2⟩)
                replace F9 := Lib.hid (show _ ∧ _ from ⟨F9.out.1, obj_below F9.out.2 hz (Nat.le_refl _)⟩)
                replace HB := Lib.hid (HB.out.trans (hz.mono HB.out.size))
                clear hz
                clear F7
                refine hK.out _ _ (HS0.out _ HB.out) (fun _ => ?_)
                clear hK
                try simp only [List.getElem_toArray, List.getElem_cons_succ, List.getElem_cons_zero, Act.put, List.setIfInBounds_toArray, List.set_cons_zero, List.set_cons_succ]
                refine wpAnyH_ready (rs := [11]) (by kernel_rfl) (by simp) (AllReadyH.cons rfl (fun K hK => ?_) AllReadyH.nil)
                refine st_store rfl (.tmp 19) (.tmp 78) rfl _ f2 rfl rfl F9.out.2 F9.out.1 HB.out ?_
                intro x7 hz
                refine hK.out _ _ (HS0.out _ hz.out.2) (fun _ => ?_)
                refine wpAnyH_done (by kernel_rfl) ?_ _
                clear hK
                try simp only [List.getElem_toArray, List.getElem_cons_succ, List.getElem_cons_zero, Act.put, List.setIfInBounds_toArray, List.set_cons_zero, List.set_cons_succ]
                go_wp2_with fail
                go_meet
                case rel => exact ⟨_, rfl, Lib.hid (H10.out.add hz.out.2 (Nat.le_refl _) _ hz.out.1 (DigC.kept _ _))⟩
            · refine st_dig rfl rfl ?_
              intro x4 hz
              have F9 := Lib.hid (show w10.heap.size ≤ x3.heap.size ∧ _ from ⟨HB.out.size, hz.out.1⟩)
              replace F2 := Lib.hid (owns_below F2.out hz.out.2 (Nat.le_refl _))
              replace F6 := Lib.hid (F6.out.below hz.out.2 (Nat.le_refl _))
              replace HB := Lib.hid (HB.out.trans (hz.out.2.mono HB.out.size))
              clear hz
              refine hK.out _ _ (HS0.out _ HB.out) (fun _ => ?_)
              clear hK
              try simp only [List.getElem_toArray, List.getElem_cons_succ, List.getElem_cons_zero, Act.put, List.setIfInBounds_toArray, List.set_cons_zero, List.set_cons_succ]
              refine wpAnyH_ready (rs := [8]) (by kernel_rfl) (by simp) (AllReadyH.cons rfl (fun K hK => ?_) AllReadyH.nil)
              refine st_app rfl (.tmp 71) (.tmp 76) rfl w10.heap.size v2 32 _ rfl F2.out _ 1 1 (fun _ => q) rfl F6.out (by decide) (by decide) HB.out.size ?_
              intro v7 x5 hz
              have ho := hz.out.1
              rw [bl_cat] at ho
              obtain ⟨p7, c7, rfl, hy7, hc7⟩ := Bytes.own ho (fun i hi => bl_get _ _ i hi) CATL.out
              have F7 := Lib.hid (show _ ∧ _ from ⟨hy7, hc7⟩)
              replace F9 := Lib.hid (show _ ∧ _ from ⟨F9.out.1, hz.out.2.2 _ F9.out.2⟩)
              replace HB := Lib.hid (HB.out.trans hz.out.2.1)
              clear F2 F6 ho hy7 hc7 hz
              refine hK.out _ _ (HS0.out _ HB.out) (fun _ => ?_)
              clear hK
              try simp only [List.getElem_toArray, List.getElem_cons_succ, List.getElem_cons_zero, Act.put, List.setIfInBounds_toArray, List.set_cons_zero, List.set_cons_succ]
              refine wpAnyH_ready (rs := [9]) (by kernel_rfl) (by simp) (AllReadyH.cons rfl (fun K hK => ?_) AllReadyH.nil)
              go_simp
              refine (HT0.out _ HB.out p7 c7 F7.out.1 F7.out.2).mono ?_
              rintro e x6 ⟨rfl, hz⟩
              go_wp2_with fail
              replace F9 := Lib.hid (show _ ∧ _ from ⟨F9.out.1, obj_below F9.out.2 hz (Nat.le_refl _)⟩)
              replace F7 := Lib.hid (show _ ∧ _ from ⟨F7.out.1.below hz (Nat.le_refl _), F7.out.2⟩)
              replace HB := Lib.hid (HB.out.trans (hz.mono HB.out.size))
              clear hz
              clear F7
              refine hK.out _ _ (HS0.out _ HB.out) (fun _ => ?_)
              clear hK
              try simp only [List.getElem_toArray, List.getElem_cons_succ, List.getElem_cons_zero, Act.put, List.setIfInBounds_toArray, List.set_cons_zero, List.set_cons_succ]
              refine wpAnyH_ready (rs := [11]) (by kernel_rfl) (by simp) (AllReadyH.cons rfl (fun K hK => ?_) AllReadyH.nil)
              refine st_store rfl (.tmp 19) (.tmp 78) rfl _ f2 rfl rfl F9.out.2 F9.out.1 HB.out ?_
              intro x7 hz
              refine hK.out _ _ (HS0.out _ hz.out.2) (fun _ => ?_)
              refine wpAnyH_done (by kernel_rfl) ?_ _
              clear hK
              try simp only [List.getElem_toArray, List.getElem_cons_succ, List.getElem_cons_zero, Act.put, List.setIfInBounds_toArray, List.set_cons_zero, List.set_cons_succ]
              go_wp2_with fail
              go_meet
              case rel => exact ⟨_, rfl, Lib.hid (H10.out.add hz.out.2 (Nat.le_refl _) _ hz.out.1 (DigC.kept _ _))⟩
          · refine st_dig rfl rfl ?_
            intro x3 hz
            have F9 := Lib.hid (show w10.heap.size ≤ x2.heap.size ∧ _ from ⟨HB.out.size, hz.out.1⟩)
            replace F2 := Lib.hid (owns_below F2.out hz.out.2 (Nat.le_refl _))
            replace HB := Lib.hid (HB.out.trans (hz.out.2.mono HB.out.size))
            clear hz
            refine hK.out _ _ (HS0.out _ HB.out) (fun _ => ?_)
            clear hK
            try simp only [List.getElem_toArray, List.getElem_cons_succ, List.getElem_cons_zero, Act.put, List.setIfInBounds_toArray, List.set_cons_zero, List.set_cons_succ]
            refine wpAnyH_ready (rs := [7]) (by kernel_rfl) (by simp) (AllReadyH.cons rfl (fun K hK => ?_) AllReadyH.nil)
            refine st_new1 rfl (.tmp 75) rfl q HBN.out rfl ?_
            intro x4 hz
            have F6 := Lib.hid hz.out.1
            replace F2 := Lib.hid (owns_below F2.out hz.out.2 (Nat.le_refl _))
            replace F9 := Lib.hid (show _ ∧ _ from ⟨F9.out.1, obj_below F9.out.2 hz.out.2 (Nat.le_refl _)⟩)
            replace HB := Lib.hid (HB.out.trans (hz.out.2.mono HB.out.size))
            clear hz
            refine hK.out _ _ (HS0.out _ HB.out) (fun _ => ?_)
            clear hK
            try simp only [List.getElem_toArray, List.getElem_cons_succ, List.getElem_cons_zero, Act.put, List.setIfInBounds_toArray, List.set_cons_zero, List.set_cons_succ]
            refine wpAnyH_ready (rs := [8]) (by kernel_rfl) (by simp) (AllReadyH.cons rfl (fun K hK => ?_) AllReadyH.nil)
            refine st_app rfl (.tmp 71) (.tmp 76) rfl w10.heap.size v2 32 _ rfl F2.out _ 1 1 (fun _ => q) rfl F6.out (by decide) (by decide) HB.out.size ?_
            intro v7 x5 hz
            have ho := hz.out.1
            rw [bl_cat] at ho
            obtain ⟨p7, c7, rfl, hy7, hc7⟩ := Bytes.own ho (fun i hi => bl_get _ _ i hi) CATL.out
            have F7 := Lib.hid (show _ ∧ _ from ⟨hy7, hc7⟩)
            replace F9 := Lib.hid (show _ ∧ _ from ⟨F9.out.1, hz.out.2.2 _ F9.out.2⟩)
            replace HB := Lib.hid (HB.out.trans hz.out.2.1)
            clear F2 F6 ho hy7 hc7 hz
            refine hK.out _ _ (HS0.out _ HB.out) (fun _ => ?_)
            clear hK
            try simp only [List.getElem_toArray, List.getElem_cons_succ, List.getElem_cons_zero, Act.put, List.setIfInBounds_toArray, List.set_cons_zero, List.set_cons_succ]
            refine wpAnyH_ready (rs := [9]) (by kernel_rfl) (by simp) (AllReadyH.cons rfl (fun K hK => ?_) AllReadyH.nil)
            go_simp
            refine (HT0.out _ HB.out p7 c7 F7.out.1 F7.out.2).mono ?_
            rintro e x6 ⟨rfl, hz⟩
            go_wp2_with fail
            replace F9 := Lib.hid (show _ ∧ _ from ⟨F9.out.1, obj_below F9.out.2 hz (Nat.le_refl _)⟩)
            replace F7 := Lib.hid (show _ ∧ _ from ⟨F7.out.1.below hz (Nat.le_refl _), F7.out.2⟩)
            replace HB := Lib.hid (HB.out.trans (hz.mono HB.out.size))
            clear hz
            clear F7
            refine hK.out _ _ (HS0.out _ HB.out) (fun _ => ?_)
            clear hK
            try simp only [List.getElem_toArray, List.getElem_cons_succ, List.getElem_cons_zero, Act.put, List.setIfInBounds_toArray, List.set_cons_zero, List.set_cons_succ]
            refine wpAnyH_ready (rs := [11]) (by kernel_rfl) (by simp) (AllReadyH.cons rfl (fun K hK => ?_) AllReadyH.nil)
            refine st_store rfl (.tmp 19) (.tmp 78) rfl _ f2 rfl rfl F9.out.2 F9.out.1 HB.out ?_
            intro x7 hz
            refine hK.out _ _ (HS0.out _ hz.out.2) (fun _ => ?_)
            refine wpAnyH_done (by kernel_rfl) ?_ _
            clear hK
            try simp only [List.getElem_toArray, List.getElem_cons_succ, List.getElem_cons_zero, Act.put, List.setIfInBounds_toArray, List.set_cons_zero, List.set_cons_succ]
            go_wp2_with fail
            go_meet
            case rel => exact ⟨_, rfl, Lib.hid (H10.out.add hz.out.2 (Nat.le_refl _) _ hz.out.1 (DigC.kept _ _))⟩
        · refine st_new1 rfl (.tmp 75) rfl q HBN.out rfl ?_
          intro x2 hz
          have F6 := Lib.hid hz.out.1
          replace HB := Lib.hid (HB.out.trans (hz.out.2.mono HB.out.size))
          clear hz
          refine hK.out _ _ (HS0.out _ HB.out) (fun _ => ?_)
          clear hK
          try simp only [List.getElem_toArray, List.getElem_cons_succ, List.getElem_cons_zero, Act.put, List.setIfInBounds_toArray, List.set_cons_zero, List.set_cons_succ]
          refine wpAnyH_ready (rs := [2, 10]) (by kernel_rfl) (by simp) (AllReadyH.cons rfl (fun K hK => ?_) (AllReadyH.cons rfl (fun K hK => ?_) AllReadyH.nil))
          · refine st_app0 rfl (.tmp 69) (.tmp 70) rfl _ rfl _ 32 32 k rfl (HK0.out.below HB.out (Nat.le_refl _)) (by decide) (by decide) ?_
            intro v2 x3 hz
            have F2 := Lib.hid (own_le hz.out.1 HB.out.size)
            replace F6 := Lib.hid (F6.out.below hz.out.2 (Nat.le_refl _))
            replace HB := Lib.hid (HB.out.trans (hz.out.2.mono HB.out.size))
            clear hz
            refine hK.out _ _ (HS0.out _ HB.out) (fun _ => ?_)
            clear hK
            try simp only [List.getElem_toArray, List.getElem_cons_succ, List.getElem_cons_zero, Act.put, List.setIfInBounds_toArray, List.set_cons_zero, List.set_cons_succ]
            refine wpAnyH_ready (rs := [8, 10]) (by kernel_rfl) (by simp) (AllReadyH.cons rfl (fun K hK => ?_) (AllReadyH.cons rfl (fun K hK => ?_) AllReadyH.nil))
            · refine st_app rfl (.tmp 71) (.tmp 76) rfl w10.heap.size v2 32 _ rfl F2.out _ 1 1 (fun _ => q) rfl F6.out (by decide) (by decide) HB.out.size ?_
              intro v7 x4 hz
              have ho := hz.out.1
              rw [bl_cat] at ho
              obtain ⟨p7, c7, rfl, hy7, hc7⟩ := Bytes.own ho (fun i hi => bl_get _ _ i hi) CATL.out
              have F7 := Lib.hid (show _ ∧ _ from ⟨hy7, hc7⟩)
              replace HB := Lib.hid (HB.out.trans hz.out.2.1)
              clear F2 F6 ho hy7 hc7 hz
              refine hK.out _ _ (HS0.out _ HB.out) (fun _ => ?_)
              clear hK
              try simp only [List.getElem_toArray, List.getElem_cons_succ, List.getElem_cons_zero, Act.put, List.setIfInBounds_toArray, List.set_cons_zero, List.set_cons_succ]
              refine wpAnyH_ready (rs := [9, 10]) (by kernel_rfl) (by simp) (AllReadyH.cons rfl (fun K hK => ?_) (AllReadyH.cons rfl (fun K hK => ?_) AllReadyH.nil))
              · go_simp
                refine (HT0.out _ HB.out p7 c7 F7.out.1 F7.out.2).mono ?_
                rintro e x5 ⟨rfl, hz⟩
                go_wp2_with fail
                replace F7 := Lib.hid (show _ ∧ _ from ⟨F7.out.1.below hz (Nat.le_refl _), F7.out.2⟩)
                replace HB := Lib.hid (HB.out.trans (hz.mono HB.out.size))
                clear hz
                clear F7
                refine hK.out _ _ (HS0.out _ HB.out) (fun _ => ?_)
                clear hK
                try simp only [List.getElem_toArray, List.getElem_cons_succ, List.getElem_cons_zero, Act.put, List.setIfInBounds_toArray, List.set_cons_zero, List.set_cons_succ]
                refine wpAnyH_ready (rs := [10]) (by kernel_rfl) (by simp) (AllReadyH.cons rfl (fun K hK => ?_) AllReadyH.nil)
                refine st_dig rfl rfl ?_
                intro x6 hz
                have F9 := Lib.hid (show w10.heap.size ≤ x5.heap.size ∧ _ from ⟨HB.out.size, hz.out.1⟩)
                replace HB := Lib.hid (HB.out.trans (hz.out.2.mono HB.out.size))
                clear hz
                refine hK.out _ _ (HS0.out _ HB.out) (fun _ => ?_)
                clear hK
                try simp only [List.getElem_toArray, List.getElem_cons_succ, List.getElem_cons_zero, Act.put, List.setIfInBounds_toArray, List.set_cons_zero, List.set_cons_succ]
                refine wpAnyH_ready (rs := [11]) (by kernel_rfl) (by simp) (AllReadyH.cons rfl (fun K hK => ?_) AllReadyH.nil)
                refine st_store rfl (.tmp 19) (.tmp 78) rfl _ f2 rfl rfl F9.out.2 F9.out.1 HB.out ?_
                intro x7 hz
                refine hK.out _ _ (HS0.out _ hz.out.2) (fun _ => ?_)
                refine wpAnyH_done (by kernel_rfl) ?_ _
                clear hK
                try simp only [List.getElem_toArray, List.getElem_cons_succ, List.getElem_cons_zero, Act.put, List.setIfInBounds_toArray, List.set_cons_zero, List.set_cons_succ]
                go_wp2_with fail
                go_meet
                case rel => exact ⟨_, rfl, Lib.hid (H10.out.add hz.out.2 (Nat.le_refl _) _ hz.out.1 (DigC.kept _ _))⟩
              · refine st_dig rfl rfl ?_
                intro x5 hz
                have F9 := Lib.hid (show w10.heap.size ≤ x4.heap.size ∧ _ from ⟨HB.out.size, hz.out.1⟩)
                replace F7 := Lib.hid (show _ ∧ _ from ⟨F7.out.1.below hz.out.2 (Nat.le_refl _), F7.out.2⟩)
                replace HB := Lib.hid (HB.out.trans (hz.out.2.mono HB.out.size))
                clear hz
                refine hK.out _ _ (HS0.out _ HB.out) (fun _ => ?_)
                clear hK
                try simp only [List.getElem_toArray, List.getElem_cons_succ, List.getElem_cons_zero, Act.put, List.setIfInBounds_toArray, List.set_cons_zero, List.set_cons_succ]
                refine wpAnyH_ready (rs := [9]) (by kernel_rfl) (by simp) (AllReadyH.cons rfl (fun K hK => ?_) AllReadyH.nil)
                go_simp
                refine (HT0.out _ HB.out p7 c7 F7.out.1 F7.out.2).mono ?_
                rintro e x6 ⟨rfl, hz⟩
                go_wp2_with fail
                replace F7 := Lib.hid (show _ ∧ _ from ⟨F7.out.1.below hz (Nat.le_refl _), F7.out.2⟩)
                replace F9 := Lib.hid (show _ ∧ _ from ⟨F9.out.1, obj_below F9.out.2 hz (Nat.le_refl _)⟩)
                replace HB := Lib.hid (HB.out.trans (hz.mono HB.out.size))
                clear hz
                clear F7
                refine hK.out _ _ (HS0.out _ HB.out) (fun _ => ?_)
                clear hK
                try simp only [List.getElem_toArray, List.getElem_cons_succ, List.getElem_cons_zero, Act.put, List.setIfInBounds_toArray, List.set_cons_zero, List.set_cons_succ]
                refine wpAnyH_ready (rs := [11]) (by kernel_rfl) (by simp) (AllReadyH.cons rfl (fun K hK => ?_) AllReadyH.nil)
                refine st_store rfl (.tmp 19) (.tmp 78) rfl _ f2 rfl rfl F9.out.2 F9.out.1 HB.out ?_
                intro x7 hz
                refine hK.out _ _ (HS0.out _ hz.out.2) (fun _ => ?_)
                refine wpAnyH_done (by kernel_rfl) ?_ _
                clear hK
                try simp only [List.getElem_toArray, List.getElem_cons_succ, List.getElem_cons_zero, Act.put, List.setIfInBounds_toArray, List.set_cons_zero, List.set_cons_succ]
                go_wp2_with fail
                go_meet
                case rel => exact ⟨_, rfl, Lib.hid (H10.out.add hz.out.2 (Nat.le_refl _) _ hz.out.1 (DigC.kept _ _))⟩
            · refine st_dig rfl rfl ?_
              intro x4 hz
              have F9 := Lib.hid (show w10.heap.size ≤ x3.heap.size ∧ _ from ⟨HB.out.size, hz.out.1⟩)
              replace F6 := Lib.hid (F6.out.below hz.out.2 (Nat.le_refl _))
              replace F2 := Lib.hid (owns_below F2.out hz.out.2 (Nat.le_refl _))
              replace HB := Lib.hid (HB.out.trans (hz.out.2.mono HB.out.size))
              clear hz
              refine hK.out _ _ (HS0.out _ HB.out) (fun _ => ?_)
              clear hK
              try simp only [List.getElem_toArray, List.getElem_cons_succ, List.getElem_cons_zero, Act.put, List.setIfInBounds_toArray, List.set_cons_zero, List.set_cons_succ]
              refine wpAnyH_ready (rs := [8]) (by kernel_rfl) (by simp) (AllReadyH.cons rfl (fun K hK => ?_) AllReadyH.nil)
              refine st_app rfl (.tmp 71) (.tmp 76) rfl w10.heap.size v2 32 _ rfl F2.out _ 1 1 (fun _ => q) rfl F6.out (by decide) (by decide) HB.out.size ?_
              intro v7 x5 hz
              have ho := hz.out.1
              rw [bl_cat] at ho
              obtain ⟨p7, c7, rfl, hy7, hc7⟩ := Bytes.own ho (fun i hi => bl_get _ _ i hi) CATL.out
              have F7 := Lib.hid (show _ ∧ _ from ⟨hy7, hc7⟩)
              replace F9 := Lib.hid (show _ ∧ _ from ⟨F9.out.1, hz.out.2.2 _ F9.out.2⟩)
              replace HB := Lib.hid (HB.out.trans hz.out.2.1)
              clear F2 F6 ho hy7 hc7 hz
              refine hK.out _ _ (HS0.out _ HB.out) (fun _ => ?_)
              clear hK
              try simp only [List.getElem_toArray, List.getElem_cons_succ, List.getElem_cons_zero, Act.put, List.setIfInBounds_toArray, List.set_cons_zero, List.set_cons_succ]
              refine wpAnyH_ready (rs := [9]) (by kernel_rfl) (by simp) (AllReadyH.cons rfl (fun K hK => ?_) AllReadyH.nil)
              go_simp
              refine (HT0.out _ HB.out p7 c7 F7.out.1 F7.out.2).mono ?_
              rintro e x6 ⟨rfl, hz⟩
              go_wp2_with fail
              replace F9 := Lib.hid (show _ ∧ _ from ⟨F9.out.1, obj_below F9.out.2 hz (Nat.le_refl _)⟩)
              replace F7 := Lib.hid (show _ ∧ _ from ⟨F7.out.1.below hz (Nat.le_refl _), F7.out.2⟩)
              replace HB := Lib.hid (HB.out.trans (hz.mono HB.out.size))
              clear hz
              clear F7
              refine hK.out _ _ (HS0.out _ HB.out) (fun _ => ?_)
              clear hK
              try simp only [List.getElem_toArray, List.getElem_cons_succ, List.getElem_cons_zero, Act.put, List.setIfInBounds_toArray, List.set_cons_zero, List.set_cons_succ]
              refine wpAnyH_ready (rs := [11]) (by kernel_rfl) (by simp) (AllReadyH.cons rfl (fun K hK => ?_) AllReadyH.nil)
              refine st_store rfl (.tmp 19) (.tmp 78) rfl _ f2 rfl rfl F9.out.2 F9.out.1 HB.out ?_
              intro x7 hz
              refine hK.out _ _ (HS0.out _ hz.out.2) (fun _ => ?_)
              refine wpAnyH_done (by kernel_rfl) ?_ _
              clear hK
              try simp only [List.getElem_toArray, List.getElem_cons_succ, List.getElem_cons_zero, Act.put, List.setIfInBounds_toArray, List.set_cons_zero, List.set_cons_succ]
              go_wp2_with fail
              go_meet
              case rel => exact ⟨_, rfl, Lib.hid (H10.out.add hz.out.2 (Nat.le_refl _) _ hz.out.1 (DigC.kept _ _))⟩
          · refine st_dig rfl rfl ?_
            intro x3 hz
            have F9 := Lib.hid (show w10.heap.size ≤ x2.heap.size ∧ _ from ⟨HB.out.size, hz.out.1⟩)
            replace F6 := Lib.hid (F6.out.below hz.out.2 (Nat.le_refl _))
            replace HB := Lib.hid (HB.out.trans (hz.out.2.mono HB.out.size))
            clear hz
            refine hK.out _ _ (HS0.out _ HB.out) (fun _ => ?_)
            clear hK
            try simp only [List.getElem_toArray, List.getElem_cons_succ, List.getElem_cons_zero, Act.put, List.setIfInBounds_toArray, List.set_cons_zero, List.set_cons_succ]
            refine wpAnyH_ready (rs := [2]) (by kernel_rfl) (by simp) (AllReadyH.cons rfl (fun K hK => ?_) AllReadyH.nil)
            refine st_app0 rfl (.tmp 69) (.tmp 70) rfl _ rfl _ 32 32 k rfl (HK0.out.below HB.out (Nat.le_refl _)) (by decide) (by decide) ?_
            intro v2 x4 hz
            have F2 := Lib.hid (own_le hz.out.1 HB.out.size)
            replace F6 := Lib.hid (F6.out.below hz.out.2 (Nat.le_refl _))
            replace F9 := Lib.hid (show _ ∧ _ from ⟨F9.out.1, obj_below F9.out.2 hz.out.2 (Nat.le_refl _)⟩)
            replace HB := Lib.hid (HB.out.trans (hz.out.2.mono HB.out.size))
            clear hz
            refine hK.out _ _ (HS0.out _ HB.out) (fun _ => ?_)
            clear hK
            try simp only [List.getElem_toArray, List.getElem_cons_succ, List.getElem_cons_zero, Act.put, List.setIfInBounds_toArray, List.set_cons_zero, List.set_cons_succ]
            refine wpAnyH_ready (rs := [8]) (by kernel_rfl) (by simp) (AllReadyH.cons rfl (fun K hK => ?_) AllReadyH.nil)
            refine st_app rfl (.tmp 71) (.tmp 76) rfl w10.heap.size v2 32 _ rfl F2.out _ 1 1 (fun _ => q) rfl F6.out (by decide) (by decide) HB.out.size ?_
            intro v7 x5 hz
            have ho := hz.out.1
            rw [bl_cat] at ho
            obtain ⟨p7, c7, rfl, hy7, hc7⟩ := Bytes.own ho (fun i hi => bl_get _ _ i hi) CATL.out
            have F7 := Lib.hid (show _ ∧ _ from ⟨hy7, hc7⟩)
            replace F9 := Lib.hid (show _ ∧ _ from ⟨F9.out.1, hz.out.2.2 _ F9.out.2⟩)
            replace HB := Lib.hid (HB.out.trans hz.out.2.1)
            clear F2 F6 ho hy7 hc7 hz
            refine hK.out _ _ (HS0.out _ HB.out) (fun _ => ?_)
            clear hK
            try simp only [List.getElem_toArray, List.getElem_cons_succ, List.getElem_cons_zero, Act.put, List.setIfInBounds_toArray, List.set_cons_zero, List.set_cons_succ]
            refine wpAnyH_ready (rs := [9]) (by kernel_rfl) (by simp) (AllReadyH.cons rfl (fun K hK => ?_) AllReadyH.nil)
            go_simp
            refine (HT0.out _ HB.out p7 c7 F7.out.1 F7.out.2).mono ?_
            rintro e x6 ⟨rfl, hz⟩
            go_wp2_with fail
            replace F9 := Lib.hid (show _ ∧ _ from ⟨F9.out.1, obj_below F9.out.2 hz (Nat.le_refl _)⟩)
            replace F7 := Lib.hid (show _ ∧ _ from ⟨F7.out.1.below hz (Nat.le_refl _), F7.out.2⟩)
            replace HB := Lib.hid (HB.out.trans (hz.mono HB.out.size))
            clear hz
            clear F7
            refine hK.out _ _ (HS0.out _ HB.out) (fun _ => ?_)
            clear hK
            try simp only [List.getElem_toArray, List.getElem_cons_succ, List.getElem_cons_zero, Act.put, List.setIfInBounds_toArray, List.set_cons_zero, List.set_cons_succ]
            refine wpAnyH_ready (rs := [11]) (by kernel_rfl) (by simp) (AllReadyH.cons rfl (fun K hK => ?_) AllReadyH.nil)
            refine st_store rfl (.tmp 19) (.tmp 78) rfl _ f2 rfl rfl F9.out.2 F9.out.1 HB.out ?_
            intro x7 hz
            refine hK.out _ _ (HS0.out _ hz.out.2) (fun _ => ?_)
            refine wpAnyH_done (by kernel_rfl) ?_ _
            clear hK
            try simp only [List.getElem_toArray, List.getElem_cons_succ, List.getElem_cons_zero, Act.put, List.setIfInBounds_toArray, List.set_cons_zero, List.set_cons_succ]
            go_wp2_with fail
            go_meet
            case rel => exact ⟨_, rfl, Lib.hid (H10.out.add hz.out.2 (Nat.le_refl _) _ hz.out.1 (DigC.kept _ _))⟩
        · refine st_dig rfl rfl ?_
          intro x2 hz
          have F9 := Lib.hid (show w10.heap.size ≤ x1.heap.size ∧ _ from ⟨HB.out.size, hz.out.1⟩)
          replace HB := Lib.hid (HB.out.trans (hz.out.2.mono HB.out.size))
          clear hz
          refine hK.out _ _ (HS0.out _ HB.out) (fun _ => ?_)
          clear hK
          try simp only [List.getElem_toArray, List.getElem_cons_succ, List.getElem_cons_zero, Act.put, List.setIfInBounds_toArray, List.set_cons_zero, List.set_cons_succ]
          refine wpAnyH_ready (rs := [2, 7]) (by kernel_rfl) (by simp) (AllReadyH.cons rfl (fun K hK => ?_) (AllReadyH.cons rfl (fun K hK => ?_) AllReadyH.nil))
          · refine st_app0 rfl (.tmp 69) (.tmp 70) rfl _ rfl _ 32 32 k rfl (HK0.out.below HB.out (Nat.le_refl _)) (by decide) (by decide) ?_
            intro v2 x3 hz
            have F2 := Lib.hid (own_le hz.out.1 HB.out.size)
            replace F9 := Lib.hid (show _ ∧ _ from ⟨F9.out.1, obj_below F9.out.2 hz.out.2 (Nat.le_refl _)⟩)
            replace HB := Lib.hid (HB.out.trans (hz.out.2.mono HB.out.size))
            clear hz
            refine hK.out _ _ (HS0.out _ HB.out) (fun _ => ?_)
            clear hK
            try simp only [List.getElem_toArray, List.getElem_cons_succ, List.getElem_cons_zero, Act.put, List.setIfInBounds_toArray, List.set_cons_zero, List.set_cons_succ]
            refine wpAnyH_ready (rs := [7]) (by kernel_rfl) (by simp) (AllReadyH.cons rfl (fun K hK => ?_) AllReadyH.nil)
            refine st_new1 rfl (.tmp 75) rfl q HBN.out rfl ?_
            intro x4 hz
            have F6 := Lib.hid hz.out.1
            replace F9 := Lib.hid (show _ ∧ _ from ⟨F9.out.1, obj_below F9.out.2 hz.out.2 (Nat.le_refl _)⟩)
            replace F2 := Lib.hid (owns_below F2.out hz.out.2 (Nat.le_refl _))
            replace HB := Lib.hid (HB.out.trans (hz.out.2.mono HB.out.size))
            clear hz
            refine hK.out _ _ (HS0.out _ HB.out) (fun _ => ?_)
            clear hK
            try simp only [List.getElem_toArray, List.getElem_cons_succ, List.getElem_cons_zero, Act.put, List.setIfInBounds_toArray, List.set_cons_zero, List.set_cons_succ]
            refine wpAnyH_ready (rs := [8]) (by kernel_rfl) (by simp) (AllReadyH.cons rfl (fun K hK => ?_) AllReadyH.nil)
            refine st_app rfl (.tmp 71) (.tmp 76) rfl w10.heap.size v2 32 _ rfl F2.out _ 1 1 (fun _ => q) rfl F6.out (by decide) (by decide) HB.out.size ?_
            intro v7 x5 hz
            have ho := hz.out.1
            rw [bl_cat] at ho
            obtain ⟨p7, c7, rfl, hy7, hc7⟩ := Bytes.own ho (fun i hi => bl_get _ _ i hi) CATL.out
            have F7 := Lib.hid (show _ ∧ _ from ⟨hy7, hc7⟩)
            replace F9 := Lib.hid (show _ ∧ _ from ⟨F9.out.1, hz.out.2.2 _ F9.out.2⟩)
            replace HB := Lib.hid (HB.out.trans hz.out.2.1)
            clear F2 F6 ho hy7 hc7 hz
            refine hK.out _ _ (HS0.out _ HB.out) (fun _ => ?_)
            clear hK
            try simp only [List.getElem_toArray, List.getElem_cons_succ, List.getElem_cons_zero, Act.put, List.setIfInBounds_toArray, List.set_cons_zero, List.set_cons_succ]
            refine wpAnyH_ready (rs := [9]) (by kernel_rfl) (by simp) (AllReadyH.cons rfl (fun K hK => ?_) AllReadyH.nil)
            go_simp
            refine (HT0.out _ HB.out p7 c7 F7.out.1 F7.out.2).mono ?_
            rintro e x6 ⟨rfl, hz⟩
            go_wp2_with fail
            replace F9 := Lib.hid (show _ ∧ _ from ⟨F9.out.1, obj_below F9.out.2 hz (Nat.le_refl _)⟩)
            replace F7 := Lib.hid (show _ ∧ _ from ⟨F7.out.1.below hz (Nat.le_refl _), F7.out.2⟩)
            replace HB := Lib.hid (HB.out.trans (hz.mono HB.out.size))
            clear hz
            clear F7
            refine hK.out _ _ (HS0.out _ HB.out) (fun _ => ?_)
            clear hK
            try simp only [List.getElem_toArray, List.getElem_cons_succ, List.getElem_cons_zero, Act.put, List.setIfInBounds_toArray, List.set_cons_zero, List.set_cons_succ]
            refine wpAnyH_ready (rs := [11]) (by kernel_rfl) (by simp) (AllReadyH.cons rfl (fun K hK => ?_) AllReadyH.nil)
            refine st_store rfl (.tmp 19) (.tmp 78) rfl _ f2 rfl rfl F9.out.2 F9.out.1 HB.out ?_
            intro x7 hz
            refine hK.out _ _ (HS0.out _ hz.out.2) (fun _ => ?_)
            refine wpAnyH_done (by kernel_rfl) ?_ _
            clear hK
            try simp only [List.getElem_toArray, List.getElem_cons_succ, List.getElem_cons_zero, Act.put, List.setIfInBounds_toArray, List.set_cons_zero, List.set_cons_succ]
            go_wp2_with fail
            go_meet
            case rel => exact ⟨_, rfl, Lib.hid (H10.out.add hz.out.2 (Nat.le_refl _) _ hz.out.1 (DigC.kept _ _))⟩
          · refine st_new1 rfl (.tmp 75) rfl q HBN.out rfl ?_
            intro x3 hz
            have F6 := Lib.hid hz.out.1
            replace F9 := Lib.hid (show _ ∧ _ from ⟨F9.out.1, obj_below F9.out.2 hz.out.2 (Nat.le_refl _)⟩)
            replace HB := Lib.hid (HB.out.trans (hz.out.2.mono HB.out.size))
            clear hz
            refine hK.out _ _ (HS0.out _ HB.out) (fun _ => ?_)
            clear hK
            try simp only [List.getElem_toArray, List.getElem_cons_succ, List.getElem_cons_zero, Act.put, List.setIfInBounds_toArray, List.set_cons_zero, List.set_cons_succ]
            refine wpAnyH_ready (rs := [2]) (by kernel_rfl) (by simp) (AllReadyH.cons rfl (fun K hK => ?_) AllReadyH.nil)
            refine st_app0 rfl (.tmp 69) (.tmp 70) rfl _ rfl _ 32 32 k rfl (HK0.out.below HB.out (Nat.le_refl _)) (by decide) (by decide) ?_
            intro v2 x4 hz
            have F2 := Lib.hid (own_le hz.out.1 HB.out.size)
            replace F9 := Lib.hid (show _ ∧ _ from ⟨F9.out.1, obj_below F9.out.2 hz.out.2 (Nat.le_refl _)⟩)
            replace F6 := Lib.hid (F6.out.below hz.out.2 (Nat.le_refl _))
            replace HB := Lib.hid (HB.out.trans (hz.out.2.mono HB.out.size))
            clear hz
            refine hK.out _ _ (HS0.out _ HB.out) (fun _ => ?_)
            clear hK
            try simp only [List.getElem_toArray, List.getElem_cons_succ, List.getElem_cons_zero, Act.put, List.setIfInBounds_toArray, List.set_cons_zero, List.set_cons_succ]
            refine wpAnyH_ready (rs := [8]) (by kernel_rfl) (by simp) (AllReadyH.cons rfl (fun K hK => ?_) AllReadyH.nil)
            refine st_app rfl (.tmp 71) (.tmp 76) rfl w10.heap.size v2 32 _ rfl F2.out _ 1 1 (fun _ => q) rfl F6.out (by decide) (by decide) HB.out.size ?_
            intro v7 x5 hz
            have ho := hz.out.1
            rw [bl_cat] at ho
            obtain ⟨p7, c7, rfl, hy7, hc7⟩ := Bytes.own ho (fun i hi => bl_get _ _ i hi) CATL.out
            have F7 := Lib.hid (show _ ∧ _ from ⟨hy7, hc7⟩)
            replace F9 := Lib.hid (show _ ∧ _ from ⟨F9.out.1, hz.out.2.2 _ F9.out.2⟩)
            replace HB := Lib.hid (HB.out.trans hz.out.2.1)
            clear F2 F6 ho hy7 hc7 hz
            refine hK.out _ _ (HS0.out _ HB.out) (fun _ => ?_)
            clear hK
            try simp only [List.getElem_toArray, List.getElem_cons_succ, List.getElem_cons_zero, Act.put, List.setIfInBounds_toArray, List.set_cons_zero, List.set_cons_succ]
            refine wpAnyH_ready (rs := [9]) (by kernel_rfl) (by simp) (AllReadyH.cons rfl (fun K hK => ?_) AllReadyH.nil)
            go_simp
            refine (HT0.out _ HB.out p7 c7 F7.out.1 F7.out.2).mono ?_
            rintro e x6 ⟨rfl, hz⟩
            go_wp2_with fail
            replace F9 := Lib.hid (show _ ∧ _ from ⟨F9.out.1, obj_below F9.out.2 hz (Nat.le_refl _)⟩)
            replace F7 := Lib.hid (show _ ∧ _ from ⟨F7.out.1.below hz (Nat.le_refl _), F7.out.2⟩)
            replace HB := Lib.hid (HB.out.trans (hz.mono HB.out.size))
            clear hz
            clear F7
            refine hK.out _ _ (HS0.out _ HB.out) (fun _ => ?_)
            clear hK
            try simp only [List.getElem_toArray, List.getElem_cons_succ, List.getElem_cons_zero, Act.put, List.setIfInBounds_toArray, List.set_cons_zero, List.set_cons_succ]
            refine wpAnyH_ready (rs := [11]) (by kernel_rfl) (by simp) (AllReadyH.cons rfl (fun K hK => ?_) AllReadyH.nil)
            refine st_store rfl (.tmp 19) (.tmp 78) rfl _ f2 rfl rfl F9.out.2 F9.out.1 HB.out ?_
            intro x7 hz
            refine hK.out _ _ (HS0.out _ hz.out.2) (fun _ => ?_)
            refine wpAnyH_done (by kernel_rfl) ?_ _
            clear hK
            try simp only [List.getElem_toArray, List.getElem_cons_succ, List.getElem_cons_zero, Act.put, List.setIfInBounds_toArray, List.set_cons_zero, List.set_cons_succ]
            go_wp2_with fail
            go_meet
            case rel => exact ⟨_, rfl, Lib.hid (H10.out.add hz.out.2 (Nat.le_refl _) _ hz.out.1 (DigC.kept _ _))⟩
      · refine st_new1 rfl (.tmp 75) rfl q HBN.out rfl ?_
        intro x1 hz
        have F6 := Lib.hid hz.out.1
        replace HB := Lib.hid (HB.out.trans (hz.out.2.mono HB.out.size))
        clear hz
        refine hK.out _ _ (HS0.out _ HB.out) (fun _ => ?_)
        clear hK
        try simp only [List.getElem_toArray, List.getElem_cons_succ, List.getElem_cons_zero, Act.put, List.setIfInBounds_toArray, List.set_cons_zero, List.set_cons_succ]
        refine wpAnyH_ready (rs := [0, 10]) (by kernel_rfl) (by simp) (AllReadyH.cons rfl (fun K hK => ?_) (AllReadyH.cons rfl (fun K hK => ?_) AllReadyH.nil))
        · refine st_new0 rfl rfl ?_
          intro x2 hz
          replace F6 := Lib.hid (F6.out.below hz.out.2 (Nat.le_refl _))
          replace HB := Lib.hid (HB.out.trans (hz.out.2.mono HB.out.size))
          clear hz
          refine hK.out _ _ (HS0.out _ HB.out) (fun _ => ?_)
          clear hK
          try simp only [List.getElem_toArray, List.getElem_cons_succ, List.getElem_cons_zero, Act.put, List.setIfInBounds_toArray, List.set_cons_zero, List.set_cons_succ]
          refine wpAnyH_ready (rs := [2, 10]) (by kernel_rfl) (by simp) (AllReadyH.cons rfl (fun K hK => ?_) (AllReadyH.cons rfl (fun K hK => ?_) AllReadyH.nil))
          · refine st_app0 rfl (.tmp 69) (.tmp 70) rfl _ rfl _ 32 32 k rfl (HK0.out.below HB.out (Nat.le_refl _)) (by decide) (by decide) ?_
            intro v2 x3 hz
            have F2 := Lib.hid (own_le hz.out.1 HB.out.size)
            replace F6 := Lib.hid (F6.out.below hz.out.2 (Nat.le_refl _))
            replace HB := Lib.hid (HB.out.trans (hz.out.2.mono HB.out.size))
            clear hz
            refine hK.out _ _ (HS0.out _ HB.out) (fun _ => ?_)
            clear hK
            try simp only [List.getElem_toArray, List.getElem_cons_succ, List.getElem_cons_zero, Act.put, List.setIfInBounds_toArray, List.set_cons_zero, List.set_cons_succ]
            refine wpAnyH_ready (rs := [8, 10]) (by kernel_rfl) (by simp) (AllReadyH.cons rfl (fun K hK => ?_) (AllReadyH.cons rfl (fun K hK => ?_) AllReadyH.nil))
            · refine st_app rfl (.tmp 71) (.tmp 76) rfl w10.heap.size v2 32 _ rfl F2.out _ 1 1 (fun _ => q) rfl F6.out (by decide) (by decide) HB.out.size ?_
              intro v7 x4 hz
              have ho := hz.out.1
              rw [bl_cat] at ho
              obtain ⟨p7, c7, rfl, hy7, hc7⟩ := Bytes.own ho (fun i hi => bl_get _ _ i hi) CATL.out
              have F7 := Lib.hid (show _ ∧ _ from ⟨hy7, hc7⟩)
              replace HB := Lib.hid (HB.out.trans hz.out.2.1)
              clear F2 F6 ho hy7 hc7 hz
              refine hK.out _ _ (HS0.out _ HB.out) (fun _ => ?_)
              clear hK
              try simp only [List.getElem_toArray, List.getElem_cons_succ, List.getElem_cons_zero, Act.put, List.setIfInBounds_toArray, List.set_cons_zero, List.set_cons_succ]
              refine wpAnyH_ready (rs := [9, 10]) (by kernel_rfl) (by simp) (AllReadyH.cons rfl (fun K hK => ?_) (AllReadyH.cons rfl (fun K hK => ?_) AllReadyH.nil))
              · go_simp
                refine (HT0.out _ HB.out p7 c7 F7.out.1 F7.out.2).mono ?_
                rintro e x5 ⟨rfl, hz⟩
                go_wp2_with fail
                replace F7 := Lib.hid (show _ ∧ _ from ⟨F7.out.1.below hz (Nat.le_refl _), F7.out.2⟩)
                replace HB := Lib.hid (HB.out.trans (hz.mono HB.out.size))
                clear hz
                clear F7
                refine hK.out _ _ (HS0.out _ HB.out) (fun _ => ?_)
                clear hK
                try simp only [List.getElem_toArray, List.getElem_cons_succ, List.getElem_cons_zero, Act.put, List.setIfInBounds_toArray, List.set_cons_zero, List.set_cons_succ]
                refine wpAnyH_ready (rs := [10]) (by kernel_rfl) (by simp) (AllReadyH.cons rfl (fun K hK => ?_) AllReadyH.nil)
                refine st_dig rfl rfl ?_
                intro x6 hz
                have F9 := Lib.hid (show w10.heap.size ≤ x5.heap.size ∧ _ from ⟨HB.out.size, hz.out.1⟩)
                replace HB := Lib.hid (HB.out.trans (hz.out.2.mono HB.out.size))
                clear hz
                refine hK.out _ _ (HS0.out _ HB.out) (fun _ => ?_)
                clear hK
                try simp only [List.getElem_toArray, List.getElem_cons_succ, List.getElem_cons_zero, Act.put, List.setIfInBounds_toArray, List.set_cons_zero, List.set_cons_succ]
                refine wpAnyH_ready (rs := [11]) (by kernel_rfl) (by simp) (AllReadyH.cons rfl (fun K hK => ?_) AllReadyH.nil)
                refine st_store rfl (.tmp 19) (.tmp 78) rfl _ f2 rfl rfl F9.out.2 F9.out.1 HB.out ?_
                intro x7 hz
                refine hK.out _ _ (HS0.out _ hz.out.2) (fun _ => ?_)
                refine wpAnyH_done (by kernel_rfl) ?_ _
                clear hK
                try simp only [List.getElem_toArray, List.getElem_cons_succ, List.getElem_cons_zero, Act.put, List.setIfInBounds_toArray, List.set_cons_zero, List.set_cons_succ]
                go_wp2_with fail
                go_meet
                case rel => exact ⟨_, rfl, Lib.hid (H10.out.add hz.out.2 (Nat.le_refl _) _ hz.out.1 (DigC.kept _ _))⟩
              · refine st_dig rfl rfl ?_
                intro x5 hz
                have F9 := Lib.hid (show w10.heap.size ≤ x4.heap.size ∧ _ from ⟨HB.out.size, hz.out.1⟩)
                replace F7 := Lib.hid (show _ ∧ _ from ⟨F7.out.1.below hz.out.2 (Nat.le_refl _), F7.out.2⟩)
                replace HB := Lib.hid (HB.out.trans (hz.out.2.mono HB.out.size))
                clear hz
                refine hK.out _ _ (HS0.out _ HB.out) (fun _ => ?_)
                clear hK
                try simp only [List.getElem_toArray, List.getElem_cons_succ, List.getElem_cons_zero, Act.put, List.setIfInBounds_toArray, List.set_cons_zero, List.set_cons_succ]
                refine wpAnyH_ready (rs := [9]) (by kernel_rfl) (by simp) (AllReadyH.cons rfl (fun K hK => ?_) AllReadyH.nil)
                go_simp
                refine (HT0.out _ HB.out p7 c7 F7.out.1 F7.out.2).mono ?_
                rintro e x6 ⟨rfl, hz⟩
                go_wp2_with fail
                replace F7 := Lib.hid (show _ ∧ _ from ⟨F7.out.1.below hz (Nat.le_refl _), F7.out.2⟩)
                replace F9 := Lib.hid (show _ ∧ _ from ⟨F9.out.1, obj_below F9.out.2 hz (Nat.le_refl _)⟩)
                replace HB := Lib.hid (HB.out.trans (hz.mono HB.out.size))
                clear hz
                clear F7
                refine hK.out _ _ (HS0.out _ HB.out) (fun _ => ?_)
                clear hK
                try simp only [List.getElem_toArray, List.getElem_cons_succ, List.getElem_cons_zero, Act.put, List.setIfInBounds_toArray, List.set_cons_zero, List.set_cons_succ]
                refine wpAnyH_ready (rs := [11]) (by kernel_rfl) (by simp) (AllReadyH.cons rfl (fun K hK => ?_) AllReadyH.nil)
                refine st_store rfl (.tmp 19) (.tmp 78) rfl _ f2 rfl rfl F9.out.2 F9.out.1 HB.out ?_
                intro x7 hz
                refine hK.out _ _ (HS0.out _ hz.out.2) (fun _ => ?_)
                refine wpAnyH_done (by kernel_rfl) ?_ _
                clear hK
                try simp only [List.getElem_toArray, List.getElem_cons_succ, List.getElem_cons_zero, Act.put, List.setIfInBounds_toArray, List.set_cons_zero, List.set_cons_succ]
                go_wp2_with fail
                go_meet
                case rel => exact ⟨_, rfl, Lib.hid (H10.out.add hz.out.2 (Nat.le_refl _) _ hz.out.1 (DigC.kept _ _))⟩
            · refine st_dig rfl rfl ?_
              intro x4 hz
              have F9 := Lib.hid (show w10.heap.size ≤ x3.heap.size ∧ _ from ⟨HB.out.size, hz.out.1⟩)
              replace F6 := Lib.hid (F6.out.below hz.out.2 (Nat.le_refl _))
              replace F2 := Lib.hid (owns_below F2.out hz.out.2 (Nat.le_refl _))
              replace HB := Lib.hid (HB.out.trans (hz.out.2.mono HB.out.size))
              clear hz
              refine hK.out _ _ (HS0.out _ HB.out) (fun _ => ?_)
              clear hK
              try simp only [List.getElem_toArray, List.getElem_cons_succ, List.getElem_cons_zero, Act.put, List.setIfInBounds_toArray, List.set_cons_zero, List.set_cons_succ]
              refine wpAnyH_ready (rs := [8]) (by kernel_rfl) (by simp) (AllReadyH.cons rfl (fun K hK => ?_) AllReadyH.nil)
              refine st_app rfl (.tmp 71) (.tmp 76) rfl w10.heap.size v2 32 _ rfl F2.out _ 1 1 (fun _ => q) rfl F6.out (by decide) (by decide) HB.out.size ?_
              intro v7 x5 hz
              have ho := hz.out.1
              rw [bl_cat] at ho
              obtain ⟨p7, c7, rfl, hy7, hc7⟩ := Bytes.own ho (fun i hi => bl_get _ _ i hi) CATL.out
              have F7 := Lib.hid (show _ ∧ _ from ⟨hy7, hc7⟩)
              replace F9 := Lib.hid (show _ ∧ _ from ⟨F9.out.1, hz.out.2.2 _ F9.out.2⟩)
              replace HB := Lib.hid (HB.out.trans hz.out.2.1)
              clear F2 F6 ho hy7 hc7 hz
              refine hK.out _ _ (HS0.out _ HB.out) (fun _ => ?_)
              clear hK
              try simp only [List.getElem_toArray, List.getElem_cons_succ, List.getElem_cons_zero, Act.put, List.setIfInBounds_toArray, List.set_cons_zero, List.set_cons_succ]
              refine wpAnyH_ready (rs := [9]) (by kernel_rfl) (by simp) (AllReadyH.cons rfl (fun K hK => ?_) AllReadyH.nil)
              go_simp
              refine (HT0.out _ HB.out p7 c7 F7.out.1 F7.out.2).mono ?_
              rintro e x6 ⟨rfl, hz⟩
              go_wp2_with fail
              replace F9 := Lib.hid (show _ ∧ _ from ⟨F9.out.1, obj_below F9.out.2 hz (Nat.le_refl _)⟩)
              replace F7 := Lib.hid (show _ ∧ _ from ⟨F7.out.1.below hz (Nat.le_refl _), F7.out.2⟩)
              replace HB := Lib.hid (HB.out.trans (hz.mono HB.out.size))
              clear hz
              clear F7
              refine hK.out _ _ (HS0.out _ HB.out) (fun _ => ?_)
              clear hK
              try simp only [List.getElem_toArray, List.getElem_cons_succ, List.getElem_cons_zero, Act.put, List.setIfInBounds_toArray, List.set_cons_zero, List.set_cons_succ]
              refine wpAnyH_ready (rs := [11]) (by kernel_rfl) (by simp) (AllReadyH.cons rfl (fun K hK => ?_) AllReadyH.nil)
              refine st_store rfl (.tmp 19) (.tmp 78) rfl _ f2 rfl rfl F9.out.2 F9.out.1 HB.out ?_
              intro x7 hz
              refine hK.out _ _ (HS0.out _ hz.out.2) (fun _ => ?_)
              refine wpAnyH_done (by kernel_rfl) ?_ _
              clear hK
              try simp only [List.getElem_toArray, List.getElem_cons_succ, List.getElem_cons_zero, Act.put, List.setIfInBounds_toArray, List.set_cons_zero, List.set_cons_succ]
              go_wp2_with fail
              go_meet
              case rel => exact ⟨_, rfl, Lib.hid (H10.out.add hz.out.2 (Nat.le_refl _) _ hz.out.1 (DigC.kept _ _))⟩
          · refine st_dig rfl rfl ?_
            intro x3 hz
            have F9 := Lib.hid (show w10.heap.size ≤ x2.heap.size ∧ _ from ⟨HB.out.size, hz.out.1⟩)
            replace F6 := Lib.hid (F6.out.below hz.out.2 (Nat.le_refl _))
            replace HB := Lib.hid (HB.out.trans (hz.out.2.mono HB.out.size))
            clear hz
            refine hK.out _ _ (HS0.out _ HB.out) (fun _ => ?_)
            clear hK
            try simp only [List.getElem_toArray, List.getElem_cons_succ, List.getElem_cons_zero, Act.put, List.setIfInBounds_toArray, List.set_cons_zero, List.set_cons_succ]
            refine wpAnyH_ready (rs := [2]) (by kernel_rfl) (by simp) (AllReadyH.cons rfl (fun K hK => ?_) AllReadyH.nil)
            refine st_app0 rfl (.tmp 69) (.tmp 70) rfl _ rfl _ 32 32 k rfl (HK0.out.below HB.out (Nat.le_refl _)) (by decide) (by decide) ?_
            intro v2 x4 hz
            have F2 := Lib.hid (own_le hz.out.1 HB.out.size)
            replace F6 := Lib.hid (F6.out.below hz.out.2 (Nat.le_refl _))
            replace F9 := Lib.hid (show _ ∧ _ from ⟨F9.out.1, obj_below F9.out.2 hz.out.2 (Nat.le_refl _)⟩)
            replace HB := Lib.hid (HB.out.trans (hz.out.2.mono HB.out.size))
            clear hz
            refine hK.out _ _ (HS0.out _ HB.out) (fun _ => ?_)
            clear hK
            try simp only [List.getElem_toArray, List.getElem_cons_succ, List.getElem_cons_zero, Act.put, List.setIfInBounds_toArray, List.set_cons_zero, List.set_cons_succ]
            refine wpAnyH_ready (rs := [8]) (by kernel_rfl) (by simp) (AllReadyH.cons rfl (fun K hK => ?_) AllReadyH.nil)
            refine st_app rfl (.tmp 71) (.tmp 76) rfl w10.heap.size v2 32 _ rfl F2.out _ 1 1 (fun _ => q) rfl F6.out (by decide) (by decide) HB.out.size ?_
            intro v7 x5 hz
            have ho := hz.out.1
            rw [bl_cat] at ho
            obtain ⟨p7, c7, rfl, hy7, hc7⟩ := Bytes.own ho (fun i hi => bl_get _ _ i hi) CATL.out
            have F7 := Lib.hid (show _ ∧ _ from ⟨hy7, hc7⟩)
            replace F9 := Lib.hid (show _ ∧ _ from ⟨F9.out.1, hz.out.2.2 _ F9.out.2⟩)
            replace HB := Lib.hid (HB.out.trans hz.out.2.1)
            clear F2 F6 ho hy7 hc7 hz
            refine hK.out _ _ (HS0.out _ HB.out) (fun _ => ?_)
            clear hK
            try simp only [List.getElem_toArray, List.getElem_cons_succ, List.getElem_cons_zero, Act.put, List.setIfInBounds_toArray, List.set_cons_zero, List.set_cons_succ]
            refine wpAnyH_ready (rs := [9]) (by kernel_rfl) (by simp) (AllReadyH.cons rfl (fun K hK => ?_) AllReadyH.nil)
            go_simp
            refine (HT0.out _ HB.out p7 c7 F7.out.1 F7.out.2).mono ?_
            rintro e x6 ⟨rfl, hz⟩
            go_wp2_with fail
            replace F9 := Lib.hid (show _ ∧ _ from ⟨F9.out.1, obj_below F9.out.2 hz (Nat.le_refl _)⟩)
            replace F7 := Lib.hid (show _ ∧ _ from ⟨F7.out.1.below hz (Nat.le_refl _), F7.out.2⟩)
            replace HB := Lib.hid (HB.out.trans (hz.mono HB.out.size))
            clear hz
            clear F7
            refine hK.out _ _ (HS0.out _ HB.out) (fun _ => ?_)
            clear hK
            try simp only [List.getElem_toArray, List.getElem_cons_succ, List.getElem_cons_zero, Act.put, List.setIfInBounds_toArray, List.set_cons_zero, List.set_cons_succ]
            refine wpAnyH_ready (rs := [11]) (by kernel_rfl) (by simp) (AllReadyH.cons rfl (fun K hK => ?_) AllReadyH.nil)
            refine st_store rfl (.tmp 19) (.tmp 78) rfl _ f2 rfl rfl F9.out.2 F9.out.1 HB.out ?_
            intro x7 hz
            refine hK.out _ _ (HS0.out _ hz.out.2) (fun _ => ?_)
            refine wpAnyH_done (by kernel_rfl) ?_ _
            clear hK
            try simp only [List.getElem_toArray, List.getElem_cons_succ, List.getElem_cons_zero, Act.put, List.setIfInBounds_toArray, List.set_cons_zero, List.set_cons_succ]
            go_wp2_with fail
            go_meet
            case rel => exact ⟨_, rfl, Lib.hid (H10.out.add hz.out.2 (Nat.le_refl _) _ hz.out.1 (DigC.kept _ _))⟩
        · refine st_dig rfl rfl ?_
          intro x2 hz
          have F9 := Lib.hid (show w10.heap.size ≤ x1.heap.size ∧ _ from ⟨HB.out.size, hz.out.1⟩)
          replace F6 := Lib.hid (F6.out.below hz.out.2 (Nat.le_refl _))
          replace HB := Lib.hid (HB.out.trans (hz.out.2.mono HB.out.size))
          clear hz
          refine hK.out _ _ (HS0.out _ HB.out) (fun _ => ?_)
          clear hK
          try simp only [List.getElem_toArray, List.getElem_cons_succ, List.getElem_cons_zero, Act.put, List.setIfInBounds_toArray, List.set_cons_zero, List.set_cons_succ]
          refine wpAnyH_ready (rs := [0]) (by kernel_rfl) (by simp) (AllReadyH.cons rfl (fun K hK => ?_) AllReadyH.nil)
          refine st_new0 rfl rfl ?_
          intro x3 hz
          replace F6 := Lib.hid (F6.out.below hz.out.2 (Nat.le_refl _))
          replace F9 := Lib.hid (show _ ∧ _ from ⟨F9.out.1, obj_below F9.out.2 hz.out.2 (Nat.le_refl _)⟩)
          replace HB := Lib.hid (HB.out.trans (hz.out.2.mono HB.out.size))
          clear hz
          refine hK.out _ _ (HS0.out _ HB.out) (fun _ => ?_)
          clear hK
          try simp only [List.getElem_toArray, List.getElem_cons_succ, List.getElem_cons_zero, Act.put, List.setIfInBounds_toArray, List.set_cons_zero, List.set_cons_succ]
          refine wpAnyH_ready (rs := [2]) (by kernel_rfl) (by simp) (AllReadyH.cons rfl (fun K hK => ?_) AllReadyH.nil)
          refine st_app0 rfl (.tmp 69) (.tmp 70) rfl _ rfl _ 32 32 k rfl (HK0.out.below HB.out (Nat.le_refl _)) (by decide) (by decide) ?_
          intro v2 x4 hz
          have F2 := Lib.hid (own_le hz.out.1 HB.out.size)
          replace F6 := Lib.hid (F6.out.below hz.out.2 (Nat.le_refl _))
          replace F9 := Lib.hid (show _ ∧ _ from ⟨F9.out.1, obj_below F9.out.2 hz.out.2 (Nat.le_refl _)⟩)
          replace HB := Lib.hid (HB.out.trans (hz.out.2.mono HB.out.size))
          clear hz
          refine hK.out _ _ (HS0.out _ HB.out) (fun _ => ?_)
          clear hK
          try simp only [List.getElem_toArray, List.getElem_cons_succ, List.getElem_cons_zero, Act.put, List.setIfInBounds_toArray, List.set_cons_zero, List.set_cons_succ]
          refine wpAnyH_ready (rs := [8]) (by kernel_rfl) (by simp) (AllReadyH.cons rfl (fun K hK => ?_) AllReadyH.nil)
          refine st_app rfl (.tmp 71) (.tmp 76) rfl w10.heap.size v2 32 _ rfl F2.out _ 1 1 (fun _ => q) rfl F6.out (by decide) (by decide) HB.out.size ?_
          intro v7 x5 hz
          have ho := hz.out.1
          rw [bl_cat] at ho
          obtain ⟨p7, c7, rfl, hy7, hc7⟩ := Bytes.own ho (fun i hi => bl_get _ _ i hi) CATL.out
          have F7 := Lib.hid (show _ ∧ _ from ⟨hy7, hc7⟩)
          replace F9 := Lib.hid (show _ ∧ _ from ⟨F9.out.1, hz.out.2.2 _ F9.out.2⟩)
          replace HB := Lib.hid (HB.out.trans hz.out.2.1)
          clear F2 F6 ho hy7 hc7 hz
          refine hK.out _ _ (HS0.out _ HB.out) (fun _ => ?_)
          clear hK
          try simp only [List.getElem_toArray, List.getElem_cons_succ, List.getElem_cons_zero, Act.put, List.setIfInBounds_toArray, List.set_cons_zero, List.set_cons_succ]
          refine wpAnyH_ready (rs := [9]) (by kernel_rfl) (by simp) (AllReadyH.cons rfl (fun K hK => ?_) AllReadyH.nil)
          go_simp
          refine (HT0.out _ HB.out p7 c7 F7.out.1 F7.out.2).mono ?_
          rintro e x6 ⟨rfl, hz⟩
          go_wp2_with fail
          replace F9 := Lib.hid (show _ ∧ _ from ⟨F9.out.1, obj_below F9.out.2 hz (Nat.le_refl _)⟩)
          replace F7 := Lib.hid (show _ ∧ _ from ⟨F7.out.1.below hz (Nat.le_refl _), F7.out.2⟩)
          replace HB := Lib.hid (HB.out.trans (hz.mono HB.out.size))
          clear hz
          clear F7
          refine hK.out _ _ (HS0.out _ HB.out) (fun _ => ?_)
          clear hK
          try simp only [List.getElem_toArray, List.getElem_cons_succ, List.getElem_cons_zero, Act.put, List.setIfInBounds_toArray, List.set_cons_zero, List.set_cons_succ]
          refine wpAnyH_ready (rs := [11]) (by kernel_rfl) (by simp) (AllReadyH.cons rfl (fun K hK => ?_) AllReadyH.nil)
          refine st_store rfl (.tmp 19) (.tmp 78) rfl _ f2 rfl rfl F9.out.2 F9.out.1 HB.out ?_
          intro x7 hz
          refine hK.out _ _ (HS0.out _ hz.out.2) (fun _ => ?_)
          refine wpAnyH_done (by kernel_rfl) ?_ _
          clear hK
          try simp only [List.getElem_toArray, List.getElem_cons_succ, List.getElem_cons_zero, Act.put, List.setIfInBounds_toArray, List.set_cons_zero, List.set_cons_succ]
          go_wp2_with fail
          go_meet
          case rel => exact ⟨_, rfl, Lib.hid (H10.out.add hz.out.2 (Nat.le_refl _) _ hz.out.1 (DigC.kept _ _))⟩
      · refine st_dig rfl rfl ?_
        intro x1 hz
        have F9 := Lib.hid (show w10.heap.size ≤ x0.heap.size ∧ _ from ⟨HB.out.size, hz.out.1⟩)
        replace HB := Lib.hid (HB.out.trans (hz.out.2.mono HB.out.size))
        clear hz
        refine hK.out _ _ (HS0.out _ HB.out) (fun _ => ?_)
        clear hK
        try simp only [List.getElem_toArray, List.getElem_cons_succ, List.getElem_cons_zero, Act.put, List.setIfInBounds_toArray, List.set_cons_zero, List.set_cons_succ]
        refine wpAnyH_ready (rs := [0, 7]) (by kernel_rfl) (by simp) (AllReadyH.cons rfl (fun K hK => ?_) (AllReadyH.cons rfl (fun K hK => ?_) AllReadyH.nil))
        · refine st_new0 rfl rfl ?_
          intro x2 hz
          replace F9 := Lib.hid (show _ ∧ _ from ⟨F9.out.1, obj_below F9.out.2 hz.out.2 (Nat.le_refl _)⟩)
          replace HB := Lib.hid (HB.out.trans (hz.out.2.mono HB.out.size))
          clear hz
          refine hK.out _ _ (HS0.out _ HB.out) (fun _ => ?_)
          clear hK
          try simp only [List.getElem_toArray, List.getElem_cons_succ, List.getElem_cons_zero, Act.put, List.setIfInBounds_toArray, List.set_cons_zero, List.set_cons_succ]
          refine wpAnyH_ready (rs := [2, 7]) (by kernel_rfl) (by simp) (AllReadyH.cons rfl (fun K hK => ?_) (AllReadyH.cons rfl (fun K hK => ?_) AllReadyH.nil))
          · refine st_app0 rfl (.tmp 69) (.tmp 70) rfl _ rfl _ 32 32 k rfl (HK0.out.below HB.out (Nat.le_refl _)) (by decide) (by decide) ?_
            intro v2 x3 hz
            have F2 := Lib.hid (own_le hz.out.1 HB.out.size)
            replace F9 := Lib.hid (show _ ∧ _ from ⟨F9.out.1, obj_below F9.out.2 hz.out.2 (Nat.le_refl _)⟩)
            replace HB := Lib.hid (HB.out.trans (hz.out.2.mono HB.out.size))
            clear hz
            refine hK.out _ _ (HS0.out _ HB.out) (fun _ => ?_)
            clear hK
            try simp only [List.getElem_toArray, List.getElem_cons_succ, List.getElem_cons_zero, Act.put, List.setIfInBounds_toArray, List.set_cons_zero, List.set_cons_succ]
            refine wpAnyH_ready (rs := [7]) (by kernel_rfl) (by simp) (AllReadyH.cons rfl (fun K hK => ?_) AllReadyH.nil)
            refine st_new1 rfl (.tmp 75) rfl q HBN.out rfl ?_
            intro x4 hz
            have F6 := Lib.hid hz.out.1
            replace F9 := Lib.hid (show _ ∧ _ from ⟨F9.out.1, obj_below F9.out.2 hz.out.2 (Nat.le_refl _)⟩)
            replace F2 := Lib.hid (owns_below F2.out hz.out.2 (Nat.le_refl _))
            replace HB := Lib.hid (HB.out.trans (hz.out.2.mono HB.out.size))
            clear hz
            refine hK.out _ _ (HS0.out _ HB.out) (fun _ => ?_)
            clear hK
            try simp only [List.getElem_toArray, List.getElem_cons_succ, List.getElem_cons_zero, Act.put, List.setIfInBounds_toArray, List.set_cons_zero, List.set_cons_succ]
            refine wpAnyH_ready (rs := [8]) (by kernel_rfl) (by simp) (AllReadyH.cons rfl (fun K hK => ?_) AllReadyH.nil)
            refine st_app rfl (.tmp 71) (.tmp 76) rfl w10.heap.size v2 32 _ rfl F2.out _ 1 1 (fun _ => q) rfl F6.out (by decide) (by decide) HB.out.size ?_
            intro v7 x5 hz
            have ho := hz.out.1
            rw [bl_cat] at ho
            obtain ⟨p7, c7, rfl, hy7, hc7⟩ := Bytes.own ho (fun i hi => bl_get _ _ i hi) CATL.out
            have F7 := Lib.hid (show _ ∧ _ from ⟨hy7, hc7⟩)
            replace F9 := Lib.hid (show _ ∧ _ from ⟨F9.out.1, hz.out.2.2 _ F9.out.2⟩)
            replace HB := Lib.hid (HB.out.trans hz.out.2.1)
            clear F2 F6 ho hy7 hc7 hz
            refine hK.out _ _ (HS0.out _ HB.out) (fun _ => ?_)
            clear hK
            try simp only [List.getElem_toArray, List.getElem_cons_succ, List.getElem_cons_zero, Act.put, List.setIfInBounds_toArray, List.set_cons_zero, List.set_cons_succ]
            refine wpAnyH_ready (rs := [9]) (by kernel_rfl) (by simp) (AllReadyH.cons rfl (fun K hK => ?_) AllReadyH.nil)
            go_simp
            refine (HT0.out _ HB.out p7 c7 F7.out.1 F7.out.2).mono ?_
            rintro e x6 ⟨rfl, hz⟩
            go_wp2_with fail
            replace F9 := Lib.hid (show _ ∧ _ from ⟨F9.out.1, obj_below F9.out.2 hz (Nat.le_refl _)⟩)
            replace F7 := Lib.hid (show _ ∧ _ from ⟨F7.out.1.below hz (Nat.le_refl _), F7.out.2⟩)
            replace HB := Lib.hid (HB.out.trans (hz.mono HB.out.size))
            clear hz
            clear F7
            refine hK.out _ _ (HS0.out _ HB.out) (fun _ => ?_)
            clear hK
            try simp only [List.getElem_toArray, List.getElem_cons_succ, List.getElem_cons_zero, Act.put, List.setIfInBounds_toArray, List.set_cons_zero, List.set_cons_succ]
            refine wpAnyH_ready (rs := [11]) (by kernel_rfl) (by simp) (AllReadyH.cons rfl (fun K hK => ?_) AllReadyH.nil)
            refine st_store rfl (.tmp 19) (.tmp 78) rfl _ f2 rfl rfl F9.out.2 F9.out.1 HB.out ?_
            intro x7 hz
            refine hK.out _ _ (HS0.out _ hz.out.2) (fun _ => ?_)
            refine wpAnyH_done (by kernel_rfl) ?_ _
            clear hK
            try simp only [List.getElem_toArray, List.getElem_cons_succ, List.getElem_cons_zero, Act.put, List.setIfInBounds_toArray, List.set_cons_zero, List.set_cons_succ]
            go_wp2_with fail
            go_meet
            case rel => exact ⟨_, rfl, Lib.hid (H10.out.add hz.out.2 (Nat.le_refl _) _ hz.out.1 (DigC.kept _ _))⟩
          · refine st_new1 rfl (.tmp 75) rfl q HBN.out rfl ?_
            intro x3 hz
            have F6 := Lib.hid hz.out.1
            replace F9 := Lib.hid (show _ ∧ _ from ⟨F9.out.1, obj_below F9.out.2 hz.out.2 (Nat.le_refl _)⟩)
            replace HB := Lib.hid (HB.out.trans (hz.out.2.mono HB.out.size))
            clear hz
            refine hK.out _ _ (HS0.out _ HB.out) (fun _ => ?_)
            clear hK
            try simp only [List.getElem_toArray, List.getElem_cons_succ, List.getElem_cons_zero, Act.put, List.setIfInBounds_toArray, List.set_cons_zero, List.set_cons_succ]
            refine wpAnyH_ready (rs := [2]) (by kernel_rfl) (by simp) (AllReadyH.cons rfl (fun K hK => ?_) AllReadyH.nil)
            refine st_app0 rfl (.tmp 69) (.tmp 70) rfl _ rfl _ 32 32 k rfl (HK0.out.below HB.out (Nat.le_refl _)) (by decide) (by decide) ?_
            intro v2 x4 hz
            have F2 := Lib.hid (own_le hz.out.1 HB.out.size)
            replace F9 := Lib.hid (show _ ∧ _ from ⟨F9.out.1, obj_below F9.out.2 hz.out.2 (Nat.le_refl _)⟩)
            replace F6 := Lib.hid (F6.out.below hz.out.2 (Nat.le_refl _))
            replace HB := Lib.hid (HB.out.trans (hz.out.2.mono HB.out.size))
            clear hz
            refine hK.out _ _ (HS0.out _ HB.out) (fun _ => ?_)
            clear hK
            try simp only [List.getElem_toArray, List.getElem_cons_succ, List.getElem_cons_zero, Act.put, List.setIfInBounds_toArray, List.set_cons_zero, List.set_cons_succ]
            refine wpAnyH_ready (rs := [8]) (by kernel_rfl) (by simp) (AllReadyH.cons rfl (fun K hK => ?_) AllReadyH.nil)
            refine st_app rfl (.tmp 71) (.tmp 76) rfl w10.heap.size v2 32 _ rfl F2.out _ 1 1 (fun _ => q) rfl F6.out (by decide) (by decide) HB.out.size ?_
            intro v7 x5 hz
            have ho := hz.out.1
            rw [bl_cat] at ho
            obtain ⟨p7, c7, rfl, hy7, hc7⟩ := Bytes.own ho (fun i hi => bl_get _ _ i hi) CATL.out
            have F7 := Lib.hid (show _ ∧ _ from ⟨hy7, hc7⟩)
            replace F9 := Lib.hid (show _ ∧ _ from ⟨F9.out.1, hz.out.2.2 _ F9.out.2⟩)
            replace HB := Lib.hid (HB.out.trans hz.out.2.1)
            clear F2 F6 ho hy7 hc7 hz
            refine hK.out _ _ (HS0.out _ HB.out) (fun _ => ?_)
            clear hK
            try simp only [List.getElem_toArray, List.getElem_cons_succ, List.getElem_cons_zero, Act.put, List.setIfInBounds_toArray, List.set_cons_zero, List.set_cons_succ]
            refine wpAnyH_ready (rs := [9]) (by kernel_rfl) (by simp) (AllReadyH.cons rfl (fun K hK => ?_) AllReadyH.nil)
            go_simp
            refine (HT0.out _ HB.out p7 c7 F7.out.1 F7.out.2).mono ?_
            rintro e x6 ⟨rfl, hz⟩
            go_wp2_with fail
            replace F9 := Lib.hid (show _ ∧ _ from ⟨F9.out.1, obj_below F9.out.2 hz (Nat.le_refl _)⟩)
            replace F7 := Lib.hid (show _ ∧ _ from ⟨F7.out.1.below hz (Nat.le_refl _), F7.out.2⟩)
            replace HB := Lib.hid (HB.out.trans (hz.mono HB.out.size))
            clear hz
            clear F7
            refine hK.out _ _ (HS0.out _ HB.out) (fun _ => ?_)
            clear hK
            try simp only [List.getElem_toArray, List.getElem_cons_succ, List.getElem_cons_zero, Act.put, List.setIfInBounds_toArray, List.set_cons_zero, List.set_cons_succ]
            refine wpAnyH_ready (rs := [11]) (by kernel_rfl) (by simp) (AllReadyH.cons rfl (fun K hK => ?_) AllReadyH.nil)
            refine st_store rfl (.tmp 19) (.tmp 78) rfl _ f2 rfl rfl F9.out.2 F9.out.1 HB.out ?_
            intro x7 hz
            refine hK.out _ _ (HS0.out _ hz.out.2) (fun _ => ?_)
            refine wpAnyH_done (by kernel_rfl) ?_ _
            clear hK
            try simp only [List.getElem_toArray, List.getElem_cons_succ, List.getElem_cons_zero, Act.put, List.setIfInBounds_toArray, List.set_cons_zero, List.set_cons_succ]
            go_wp2_with fail
            go_meet
            case rel => exact ⟨_, rfl, Lib.hid (H10.out.add hz.out.2 (Nat.le_refl _) _ hz.out.1 (DigC.kept _ _))⟩
        · refine st_new1 rfl (.tmp 75) rfl q HBN.out rfl ?_
          intro x2 hz
          have F6 := Lib.hid hz.out.1
          replace F9 := Lib.hid (show _ ∧ _ from ⟨F9.out.1, obj_below F9.out.2 hz.out.2 (Nat.le_refl _)⟩)
          replace HB := Lib.hid (HB.out.trans (hz.out.2.mono HB.out.size))
          clear hz
          refine hK.out _ _ (HS0.out _ HB.out) (fun _ => ?_)
          clear hK
          try simp only [List.getElem_toArray, List.getElem_cons_succ, List.getElem_cons_zero, Act.put, List.setIfInBounds_toArray, List.set_cons_zero, List.set_cons_succ]
          refine wpAnyH_ready (rs := [0]) (by kernel_rfl) (by simp) (AllReadyH.cons rfl (fun K hK => ?_) AllReadyH.nil)
          refine st_new0 rfl rfl ?_
          intro x3 hz
          replace F9 := Lib.hid (show _ ∧ _ from ⟨F9.out.1, obj_below F9.out.2 hz.out.2 (Nat.le_refl _)⟩)
          replace F6 := Lib.hid (F6.out.below hz.out.2 (Nat.le_refl _))
          replace HB := Lib.hid (HB.out.trans (hz.out.2.mono HB.out.size))
          clear hz
          refine hK.out _ _ (HS0.out _ HB.out) (fun _ => ?_)
          clear hK
          try simp only [List.getElem_toArray, List.getElem_cons_succ, List.getElem_cons_zero, Act.put, List.setIfInBounds_toArray, List.set_cons_zero, List.set_cons_succ]
          refine wpAnyH_ready (rs := [2]) (by kernel_rfl) (by simp) (AllReadyH.cons rfl (fun K hK => ?_) AllReadyH.nil)
          refine st_app0 rfl (.tmp 69) (.tmp 70) rfl _ rfl _ 32 32 k rfl (HK0.out.below HB.out (Nat.le_refl _)) (by decide) (by decide) ?_
          intro v2 x4 hz
          have F2 := Lib.hid (own_le hz.out.1 HB.out.size)
          replace F9 := Lib.hid (show _ ∧ _ from ⟨F9.out.1, obj_below F9.out.2 hz.out.2 (Nat.le_refl _)⟩)
          replace F6 := Lib.hid (F6.out.below hz.out.2 (Nat.le_refl _))
          replace HB := Lib.hid (HB.out.trans (hz.out.2.mono HB.out.size))
          clear hz
          refine hK.out _ _ (HS0.out _ HB.out) (fun _ => ?_)
          clear hK
          try simp only [List.getElem_toArray, List.getElem_cons_succ, List.getElem_cons_zero, Act.put, List.setIfInBounds_toArray, List.set_cons_zero, List.set_cons_succ]
          refine wpAnyH_ready (rs := [8]) (by kernel_rfl) (by simp) (AllReadyH.cons rfl (fun K hK => ?_) AllReadyH.nil)
          refine st_app rfl (.tmp 71) (.tmp 76) rfl w10.heap.size v2 32 _ rfl F2.out _ 1 1 (fun _ => q) rfl F6.out (by decide) (by decide) HB.out.size ?_
          intro v7 x5 hz
          have ho := hz.out.1
          rw [bl_cat] at ho
          obtain ⟨p7, c7, rfl, hy7, hc7⟩ := Bytes.own ho (fun i hi => bl_get _ _ i hi) CATL.out
          have F7 := Lib.hid (show _ ∧ _ from ⟨hy7, hc7⟩)
          replace F9 := Lib.hid (show _ ∧ _ from ⟨F9.out.1, hz.out.2.2 _ F9.out.2⟩)
          replace HB := Lib.hid (HB.out.trans hz.out.2.1)
          clear F2 F6 ho hy7 hc7 hz
          refine hK.out _ _ (HS0.out _ HB.out) (fun _ => ?_)
          clear hK
          try simp only [List.getElem_toArray, List.getElem_cons_succ, List.getElem_cons_zero, Act.put, List.setIfInBounds_toArray, List.set_cons_zero, List.set_cons_succ]
          refine wpAnyH_ready (rs := [9]) (by kernel_rfl) (by simp) (AllReadyH.cons rfl (fun K hK => ?_) AllReadyH.nil)
          go_simp
          refine (HT0.out _ HB.out p7 c7 F7.out.1 F7.out.2).mono ?_
          rintro e x6 ⟨rfl, hz⟩
          go_wp2_with fail
          replace F9 := Lib.hid (show _ ∧ _ from ⟨F9.out.1, obj_below F9.out.2 hz (Nat.le_refl _)⟩)
          replace F7 := Lib.hid (show _ ∧ _ from ⟨F7.out.1.below hz (Nat.le_refl _), F7.out.2⟩)
          replace HB := Lib.hid (HB.out.trans (hz.mono HB.out.size))
          clear hz
          clear F7
          refine hK.out _ _ (HS0.out _ HB.out) (fun _ => ?_)
          clear hK
          try simp only [List.getElem_toArray, List.getElem_cons_succ, List.getElem_cons_zero, Act.put, List.setIfInBounds_toArray, List.set_cons_zero, List.set_cons_succ]
          refine wpAnyH_ready (rs := [11]) (by kernel_rfl) (by simp) (AllReadyH.cons rfl (fun K hK => ?_) AllReadyH.nil)
          refine st_store rfl (.tmp 19) (.tmp 78) rfl _ f2 rfl rfl F9.out.2 F9.out.1 HB.out ?_
          intro x7 hz
          refine hK.out _ _ (HS0.out _ hz.out.2) (fun _ => ?_)
          refine wpAnyH_done (by kernel_rfl) ?_ _
          clear hK
          try simp only [List.getElem_toArray, List.getElem_cons_succ, List.getElem_cons_zero, Act.put, List.setIfInBounds_toArray, List.set_cons_zero, List.set_cons_succ]
          go_wp2_with fail
          go_meet
          case rel => exact ⟨_, rfl, Lib.hid (H10.out.add hz.out.2 (Nat.le_refl _) _ hz.out.1 (DigC.kept _ _))⟩
    case rest =>
      generalize wc = w11 at *
      obtain ⟨B11, rfl, H11⟩ := hcut
      clear H10 T2
      have hs_s := H11.out.side (.tail _ (.tail _ (.tail _ (.tail _ (.head _)))))
      clear hs_s
      go_wp2_with first | (refine wpList_loadD rfl (.tmp 9) rfl _ _ (H11.out.dig (.tail _ (.tail _ (.tail _ (.tail _ (.tail _ (.head _))))))) rfl ?_) | (refine wpList_loadD rfl (.tmp 16) rfl _ _ (H11.out.dig (.tail _ (.tail _ (.head _)))) rfl ?_) | (refine wpList_loadD rfl (.tmp 19) rfl _ _ (H11.out.dig (.head _)) rfl ?_) | (refine wpList_new3 rfl 79 80 81 rfl g f1 f2 rfl rfl rfl ?_; intro w12 hu2)
      have H12 := Lib.hid (H11.out.add hu2.out.2 (Nat.le_refl _) _ hu2.out.1 (ThreeC.kept _ _ _ _))
      clear hu2 H11
      generalize w11.heap.size = B12 at *
      go_loopg [84] 3 (fun m s84 wr => ∃ i : Nat, s84 = .int .i64 i ∧ Hid (i + m = 3) ∧ Hid (Hold w (ThreeC B12 g f1 f2 :: DigC B11 f2 :: (DigC B10 f1 :: [DigC B9 f1, DigC B7 k, SideC w3.heap.size r c x, DigC w.heap.size g])) wr))
      case atStart => exact ⟨0, rfl, Lib.hid rfl, H12⟩
      case round =>
        obtain ⟨i, rfl, hi, H13⟩ := hrel
        by_cases h3 : i < 3
        · have t1 : decide ((i : Int) < 3) = true := by rw [decide_eq_true_eq]; omega
          have b1 : (i : Int) < 3 := by omega
          have hix := fun W => run_ix B12 W i h3
          have HI3 := Lib.hid h3
          clear h3
          have hs_s := H13.out.side (.tail _ (.tail _ (.tail _ (.tail _ (.tail _ (.head _))))))
          clear hs_s
          go_upto_region 14 with first
            | (refine wpList_load3 rfl (.tmp 86) rfl B12 i HI3.out g f1 f2 (H13.out.three (.head _)) rfl ?_)
            | (refine wpList_alloc32 rfl rfl ?_; intro u1 hu1)
            | (refine wpList_storeD rfl (.tmp 21) (.tmp 87) rfl _ (sel3 g f1 f2 i) hu1.out.1 hu1.out.2.1 rfl rfl ?_; intro wq hu2)
          have H14 := Lib.hid (H13.out.addDig hu2.out.1 hu2.out.2)
          clear hu1 hu2 hix H13
          have hs_s := H14.out.side (.tail _ (.tail _ (.tail _ (.tail _ (.tail _ (.tail _ (.head _)))))))
          go_wp2_with first | (refine wpList_loadD rfl (.tmp 21) rfl _ _ (H14.out.dig (.head _)) rfl ?_)
          refine (A1.out _ H14.out.below (sel3 g f1 f2 i) (sel3_lt HG.out l1.out l2.out i)).mono ?_
          rintro e wr ⟨rfl, hb1⟩
          have H15 := Lib.hid (H14.out.next hb1 (Nat.le_refl _))
          clear hs_s
          clear hb1 H14
          generalize hmb : eqB (sel3 g f1 f2 i) f2 = mb at *
          have HMB := Lib.hid hmb
          clear hmb
          go_wp2_with first | (refine wpList_loadDg (by rfl) (.tmp 21) rfl _ _ (H15.out.dig (.head _)) rfl ?_) | (refine wpList_loadDg (by rfl) (.tmp 19) rfl _ _ (H15.out.dig (.tail _ (.tail _ (.head _)))) rfl ?_) | (refine wpList_eqlDb (by rfl) (.tmp 99) (.tmp 100) 44 rfl (sel3 g f1 f2 i) f2 (sel3_lt HG.out l1.out l2.out i) l2.out rfl rfl mb HMB.out ?_)
          go_roundg (3 - (i + 1))
          case rel => exact ⟨i + 1, by go_num, Lib.hid (by have := HI3.out; omega), Lib.hid H15.out.tail⟩
          case measure => have := hi.out; have := HI3.out; omega
        · obtain rfl : i = 3 := by have := hi.out; omega
          have t1 : decide (((3 : Nat) : Int) < 3) = false := by decide
          clear h3
          go_wp2_with first | (refine wpList_loadD rfl (.tmp 16) rfl _ _ (H13.out.dig (.tail _ (.tail _ (.tail _ (.head _))))) rfl ?_) | (refine wpList_loadD rfl (.tmp 18) rfl _ _ (H13.out.dig (.tail _ (.tail _ (.head _)))) rfl ?_) | (refine wpList_eqlDb (by rfl) (.tmp 105) (.tmp 106) 44 rfl f1 f1 l1.out l1.out rfl rfl true he1 ?_)
          go_ret
          exact ⟨rfl, H13.out.below⟩
end Go.Proofs.YtelikpkekloffaaDoor
