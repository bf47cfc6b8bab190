/- The law PakeSharedSpec, walked: whatever its arguments, it returns true. -/
import Derived.Test.YtelikpkekloffaaDoorSane10
import Derived.Test.YtelikpkekloffaaDoorRef11
namespace Go.Proofs.YtelikpkekloffaaDoor
open Go.RowKit

theorem byte_of (r : Int) : ∃ (y : Int) (b : Nat), IntKind.i64.wrap (3 - r) = y ∧ IntKind.u8.wrap y = (b : Int) ∧ b < 256 := by
  refine ⟨_, (IntKind.i64.wrap (3 - r) % 256).toNat, rfl, ?_, by omega⟩
  generalize IntKind.i64.wrap (3 - r) = y
  simp only [IntKind.wrap, IntKind.bits, IntKind.signed]
  simp
  omega

set_option linter.unusedSimpArgs false in
set_option linter.unusedVariables false in
set_option maxRecDepth 100000 in
set_option maxHeartbeats 8000000 in
theorem ss_gen (r c x peer f : Int) (g k f1 : Nat → Nat) (mf : (Nat → Nat) → Bool) (hg : ∀ i, i < 32 → g i < 256) (hk : ∀ i, i < 32 → k i < 256) (hf1 : ∀ i, i < 32 → f1 i < 256) (w : World) (hT : Tabs w)
    (hk1 : ∀ W, Below w.heap.size w W → Calls Tryd.prog 34 #[.agg #[.int .i64 r, .int .i64 c, .int .i64 x], .int .i64 peer] W fun e w' => e = .returned (.tuple #[d32 k, .int .i64 f]) ∧ Below W.heap.size W w')
    (hk2 : ∀ W, Calls Tryd.prog 43 #[.agg #[.int .i64 r, .int .i64 c, .int .i64 x], .int .i64 peer] W fun e w' => e = .returned (.tuple #[d32 k, .int .i64 f]) ∧ Below W.heap.size W w')
    (hr1 : ∀ W, Below w.heap.size w W → Calls Tryd.prog 44 #[.agg #[.int .i64 r, .int .i64 c, .int .i64 x], .int .i64 peer] W fun e w' => e = .returned (.tuple #[d32 f1, .int .i64 f]) ∧ Below W.heap.size W w')
    (hr2 : ∀ W, Calls Tryd.prog 45 #[.agg #[.int .i64 r, .int .i64 c, .int .i64 x], .int .i64 peer] W fun e w' => e = .returned (.tuple #[d32 f1, .int .i64 f]) ∧ Below W.heap.size W w')
    (ha1 : ∀ W, Below w.heap.size w W → ∀ d : Nat → Nat, (∀ i, i < 32 → d i < 256) → Calls Tryd.prog 46 #[.agg #[.int .i64 r, .int .i64 c, .int .i64 x], .int .i64 peer, d32 d] W fun e w' => e = .returned (.tuple #[.bool (mf d), .int .i64 f]) ∧ Below W.heap.size W w')
    (ha2 : ∀ W, ∀ d : Nat → Nat, (∀ i, i < 32 → d i < 256) → Calls Tryd.prog 47 #[.agg #[.int .i64 r, .int .i64 c, .int .i64 x], .int .i64 peer, d32 d] W fun e w' => e = .returned (.tuple #[.bool (mf d), .int .i64 f]) ∧ Below W.heap.size W w') :
    Calls Tryd.prog 8 #[.agg #[.int .i64 r, .int .i64 c, .int .i64 x], .int .i64 peer, d32 g] w fun e w' => e = .returned (.bool true) ∧ Below w.heap.size w w' := by
  have X0 := Lib.hid (fun w hT => sane10 w hT)
  obtain ⟨y, b, eW, eB, hb⟩ := byte_of r
  have T1 := Lib.hid (fun (W : World) (hB : Below w.heap.size w W) (p : Option Addr) (cap : Nat) (hy : Bytes W p (32 + 1) cap (Sha.cat 32 k (fun _ => b))) (hc : cap ≤ 9223372036854775807) =>
    tagged_any proofT p (32 + 1) cap _ W (hT.below hB) hy (by decide) (by decide) hc)
  have l2' : ∀ i, i < 32 → Sha.tagged proofT.size (sb proofT) (32 + 1) (Sha.cat 32 k (fun _ => b)) i < 256 := fun i _ => Sha.tagged_lt _ _ _ _ i
  generalize Sha.tagged proofT.size (sb proofT) (32 + 1) (Sha.cat 32 k (fun _ => b)) = f2 at *
  unfold d32 at hk1 hk2 hr1 hr2 ha1 ha2 T1
  unfold d32
  have K1 := Lib.hid hk1
  have K2 := Lib.hid hk2
  have R1 := Lib.hid hr1
  have R2 := Lib.hid hr2
  have A1 := Lib.hid ha1
  have A2 := Lib.hid ha2
  have HG := Lib.hid hg
  have KL := Lib.hid hk
  have l1 := Lib.hid hf1
  have l2 := Lib.hid l2'
  have HBN := Lib.hid hb
  have CATL := Lib.hid (cat33_lt hk hb)
  clear hk1 hk2 hr1 hr2 ha1 ha2 hg hk hf1 l2' hb
  have HT := Lib.hid hT
  clear hT
  go_enter Tryd.func8, Tryd.ntmps8
  go_upto_region 1 with fail
  change Code.wp Tryd.prog _ _ _ ((w.alloc (.cells #[.int .i64 r, .int .i64 c, .int .i64 x] 24)).alloc (.cells (c32 g).toArray 44))
  have h1 := ((Hold.nil w).addSide r c x).addDigNew g 44
  rw [alloc_size] at h1
  have H1 := Lib.hid h1
  clear h1
  generalize (w.alloc (.cells #[.int .i64 r, .int .i64 c, .int .i64 x] 24)).alloc (.cells (c32 g).toArray 44) = w1 at *
  have hs_s := H1.out.side (.tail _ (.head _))
  go_wp2_with fail
  refine (X0.out _ (HT.out.below H1.out.below)).mono ?_
  rintro e w2 ⟨rfl, hb1⟩
  have H2 := Lib.hid (H1.out.next hb1 (Nat.le_refl _))
  clear hs_s
  clear hb1 H1 X0
  have hs_s := H2.out.side (.tail _ (.head _))
  go_wp2_with fail
  refine (K1.out _ H2.out.below).mono ?_
  rintro e w3 ⟨rfl, hb1⟩
  have H3 := Lib.hid (H2.out.next hb1 (Nat.le_refl _))
  clear hs_s
  clear hb1 H2 K1
  have hs_s := H3.out.side (.tail _ (.head _))
  go_upto_region 4 with first
    | (refine wpList_allocK rfl rfl ?_; intro u1 hu1)
    | (refine wpList_storeK rfl (.tmp 7) (.tmp 28) rfl w3.heap.size k hu1.out.1 hu1.out.2.1 rfl rfl ?_; intro w4 hu2)
  have H4 := Lib.hid (H3.out.addDig hu2.out.1 hu2.out.2)
  clear hs_s
  clear hu1 hu2 H3
  generalize w3.heap.size = B4 at *
  clear u1
  have hs_s := H4.out.side (.tail _ (.tail _ (.head _)))
  go_wp2_with fail
  refine (K2.out _).mono ?_
  rintro e w5 ⟨rfl, hb1⟩
  have H5 := Lib.hid (H4.out.next hb1 (Nat.le_refl _))
  clear hs_s
  clear hb1 H4 K2
  have hs_s := H5.out.side (.tail _ (.tail _ (.head _)))
  go_upto_region 5 with first
    | (refine wpList_allocK rfl rfl ?_; intro u1 hu1)
    | (refine wpList_storeK rfl (.tmp 9) (.tmp 34) rfl w5.heap.size k hu1.out.1 hu1.out.2.1 rfl rfl ?_; intro w6 hu2)
  have H6 := Lib.hid (H5.out.addDig hu2.out.1 hu2.out.2)
  clear hs_s
  clear hu1 hu2 H5
  generalize w5.heap.size = B6 at *
  clear u1
  have hs_s := H6.out.side (.tail _ (.tail _ (.tail _ (.head _))))
  go_wp2_with fail
  refine (R1.out _ H6.out.below).mono ?_
  rintro e w7 ⟨rfl, hb1⟩
  have H7 := Lib.hid (H6.out.next hb1 (Nat.le_refl _))
  clear hs_s
  clear hb1 H6 R1
  have hs_s := H7.out.side (.tail _ (.tail _ (.tail _ (.head _))))
  go_upto_region 6 with first
    | (refine wpList_alloc32 rfl rfl ?_; intro u1 hu1)
    | (refine wpList_storeD rfl (.tmp 11) (.tmp 40) rfl w7.heap.size f1 hu1.out.1 hu1.out.2.1 rfl rfl ?_; intro w8 hu2)
  have H8 := Lib.hid (H7.out.addDig hu2.out.1 hu2.out.2)
  clear hs_s
  clear hu1 hu2 H7
  generalize w7.heap.size = B8 at *
  clear u1
  have hs_s := H8.out.side (.tail _ (.tail _ (.tail _ (.tail _ (.head _)))))
  go_wp2_with fail
  refine (R2.out _).mono ?_
  rintro e w9 ⟨rfl, hb1⟩
  have H9 := Lib.hid (H8.out.next hb1 (Nat.le_refl _))
  clear hs_s
  clear hb1 H8 R2
  have hs_s := H9.out.side (.tail _ (.tail _ (.tail _ (.tail _ (.head _)))))
  go_upto_region 7 with first
    | (refine wpList_alloc32 rfl rfl ?_; intro u1 hu1)
    | (refine wpList_storeD rfl (.tmp 13) (.tmp 46) rfl w9.heap.size f1 hu1.out.1 hu1.out.2.1 rfl rfl ?_; intro w10 hu2)
  have H10 := Lib.hid (H9.out.addDig hu2.out.1 hu2.out.2)
  clear hs_s
  clear hu1 hu2 H9
  generalize w9.heap.size = B10 at *
  clear u1
  have hs_s := H10.out.side (.tail _ (.tail _ (.tail _ (.tail _ (.tail _ (.head _))))))
  clear hs_s
  go_upto_region 9 with first | (refine wpList_loadK rfl (.tmp 7) rfl _ _ (H10.out.dig (.tail _ (.tail _ (.tail _ (.head _))))) rfl ?_) | (refine wpList_loadK rfl (.tmp 9) rfl _ _ (H10.out.dig (.tail _ (.tail _ (.head _)))) rfl ?_) | (refine wpList_loadDg (by rfl) (.tmp 11) rfl _ _ (H10.out.dig (.tail _ (.head _))) rfl ?_) | (refine wpList_loadDg (by rfl) (.tmp 13) rfl _ _ (H10.out.dig (.head _)) rfl ?_) | (refine wpList_neqKb (by rfl) (.tmp 48) (.tmp 49) 37 rfl k k KL.out KL.out rfl rfl false (eqB_selfN k) ?_) | (refine wpList_neqDb (by rfl) (.tmp 57) (.tmp 58) 44 rfl f1 f1 l1.out l1.out rfl rfl false (eqB_selfN f1) ?_)
  go_upto_region 9 with fail
  go_cut [15] from 66 to 75 (fun v wx => ∃ B : Nat, v = .pointer (some ⟨B, 0, none⟩) ∧ Hid (Hold w (DigC B f2 :: [DigC B10 f1, DigC B8 f1, DigC B6 k, DigC B4 k, DigC (w.heap.size + 1) g, SideC w.heap.size r c x]) wx))
  case first =>
    have hk := H10.out.dig (.tail _ (.tail _ (.head _)))
    have HK0 := Lib.hid (show Bytes w10 (some ⟨B6, 0, none⟩) 32 32 k from ⟨fun _ => ⟨B6, 0, rfl, DigC.lt hk, hk.reads⟩, KL.out, Nat.le_refl _, fun e => by cases e⟩)
    have hsl := fun W => run_slice_key W B6
    have HS0 := Lib.hid (fun (W : World) (hb : Below w10.heap.size w10 W) => show W.cell? ⟨w.heap.size, 0, none⟩ = some (.int .i64 (r : Int)) ∧ Below w10.heap.size w10 W from ⟨((H10.out.next hb (Nat.le_refl _)).side (.tail _ (.tail _ (.tail _ (.tail _ (.tail _ (.head _))))))).1, hb⟩)
    have HT0 := Lib.hid (fun (W : World) (hb : Below w10.heap.size w10 W) p cap hy hc => T1.out W (H10.out.next hb (Nat.le_refl _)).below p cap hy hc)
    clear hk
    refine wp_region_held_drew (S := fun W => W.cell? ⟨w.heap.size, 0, none⟩ = some (.int .i64 (r : Int)) ∧ Below w10.heap.size w10 W) (by kernel_rfl) (HS0.out _ (Below.refl _ _).drew) (fun hH => ?_)
    refine wpAnyH_take (i := 1) (v := ?v1r9) rfl (by kernel_rfl) (by kernel_rfl) (by kernel_rfl) (fun _ _ _ h => h) (Or.inl ⟨by rfl, ?y1r9⟩) hH ?_
    case y1r9 => intro W hSw; go_simp; try with_reducible rfl
    try simp only [List.getElem_toArray, List.getElem_cons_succ, List.getElem_cons_zero, Act.put, List.setIfInBounds_toArray, List.set_cons_zero, List.set_cons_succ]
    refine wpAnyH_take (i := 3) (v := ?v3r9) rfl (by kernel_rfl) (by kernel_rfl) (by kernel_rfl) (fun _ _ _ h => h) (Or.inl ⟨by rfl, ?y3r9⟩) hH ?_
    case y3r9 => intro W hSw; go_simp; try with_reducible rfl
    try simp only [List.getElem_toArray, List.getElem_cons_succ, List.getElem_cons_zero, Act.put, List.setIfInBounds_toArray, List.set_cons_zero, List.set_cons_succ]
    refine wpAnyH_take (i := 4) (v := ?v4r9) rfl (by kernel_rfl) (by kernel_rfl) (by kernel_rfl) (fun _ _ _ h => h) (Or.inl ⟨by rfl, ?y4r9⟩) hH ?_
    case y4r9 => intro W hSw; go_simp; try with_reducible rfl
    try simp only [List.getElem_toArray, List.getElem_cons_succ, List.getElem_cons_zero, Act.put, List.setIfInBounds_toArray, List.set_cons_zero, List.set_cons_succ]
    refine wpAnyH_take (i := 5) (v := ?v5r9) rfl (by kernel_rfl) (by kernel_rfl) (by kernel_rfl) (fun _ _ _ h => h) (Or.inl ⟨by rfl, ?y5r9⟩) hH ?_
    case y5r9 => intro W hSw; go_simp; try with_reducible rfl
    try simp only [List.getElem_toArray, List.getElem_cons_succ, List.getElem_cons_zero, Act.put, List.setIfInBounds_toArray, List.set_cons_zero, List.set_cons_succ]
    refine wpAnyH_take (i := 6) (v := ?v6r9) rfl (by kernel_rfl) (by kernel_rfl) (by kernel_rfl) (fun _ _ _ h => h) (Or.inl ⟨by rfl, ?y6r9⟩) hH ?_
    case y6r9 => intro W hSw; go_simp; try with_reducible rfl
    try simp only [List.getElem_toArray, List.getElem_cons_succ, List.getElem_cons_zero, Act.put, List.setIfInBounds_toArray, List.set_cons_zero, List.set_cons_succ]
    have HB := Lib.hid hH.2
    clear hH
    generalize w10.drew = x0 at *
    refine wpAnyH_ready (rs := [0, 7, 10]) (by kernel_rfl) (by simp) (AllReadyH.cons rfl (fun K hK => ?_) (AllReadyH.cons rfl (fun K hK => ?_) (AllReadyH.cons rfl (fun K hK => ?_) AllReadyH.nil)))
    · refine st_new0 rfl rfl ?_
      intro x1 hz
      replace HB := Lib.hid (HB.out.trans (hz.out.2.mono HB.out.size))
      clear hz
      refine hK.out _ _ (HS0.out _ HB.out) (fun _ => ?_)
      clear hK
      try simp only [List.getElem_toArray, List.getElem_cons_succ, List.getElem_cons_zero, Act.put, List.setIfInBounds_toArray, List.set_cons_zero, List.set_cons_succ]
      refine wpAnyH_ready (rs := [2, 7, 10]) (by kernel_rfl) (by simp) (AllReadyH.cons rfl (fun K hK => ?_) (AllReadyH.cons rfl (fun K hK => ?_) (AllReadyH.cons rfl (fun K hK => ?_) AllReadyH.nil)))
      · refine st_app0 rfl (.tmp 66) (.tmp 67) rfl _ rfl _ 32 32 k rfl (HK0.out.below HB.out (Nat.le_refl _)) (by decide) (by decide) ?_
        intro v2 x2 hz
        have F2 := Lib.hid (own_le hz.out.1 HB.out.size)
        replace HB := Lib.hid (HB.out.trans (hz.out.2.mono HB.out.size))
        clear hz
        refine hK.out _ _ (HS0.out _ HB.out) (fun _ => ?_)
        clear hK
        try simp only [List.getElem_toArray, List.getElem_cons_succ, List.getElem_cons_zero, Act.put, List.setIfInBounds_toArray, List.set_cons_zero, List.set_cons_succ]
        refine wpAnyH_ready (rs := [7, 10]) (by kernel_rfl) (by simp) (AllReadyH.cons rfl (fun K hK => ?_) (AllReadyH.cons rfl (fun K hK => ?_) AllReadyH.nil))
        · refine st_new1 rfl (.tmp 72) rfl b HBN.out rfl ?_
          intro x3 hz
          have F6 := Lib.hid hz.out.1
          replace F2 := Lib.hid (owns_below F2.out hz.out.2 (Nat.le_refl _))
          replace HB := Lib.hid (HB.out.trans (hz.out.2.mono HB.out.size))
          clear hz
          refine hK.out _ _ (HS0.out _ HB.out) (fun _ => ?_)
          clear hK
          try simp only [List.getElem_toArray, List.getElem_cons_succ, List.getElem_cons_zero, Act.put, List.setIfInBounds_toArray, List.set_cons_zero, List.set_cons_succ]
          refine wpAnyH_ready (rs := [8, 10]) (by kernel_rfl) (by simp) (AllReadyH.cons rfl (fun K hK => ?_) (AllReadyH.cons rfl (fun K hK => ?_) AllReadyH.nil))
          · refine st_app rfl (.tmp 68) (.tmp 73) rfl w10.heap.size v2 32 _ rfl F2.out _ 1 1 (fun _ => b) rfl F6.out (by decide) (by decide) HB.out.size ?_
            intro v7 x4 hz
            have ho := hz.out.1
            rw [bl_cat] at ho
            obtain ⟨p7, c7, rfl, hy7, hc7⟩ := Bytes.own ho (fun i hi => bl_get _ _ i hi) CATL.out
            have F7 := Lib.hid (show _ ∧ _ from ⟨hy7, hc7⟩)
            replace HB := Lib.hid (HB.out.trans hz.out.2.1)
            clear F2 F6 ho hy7 hc7 hz
            refine hK.out _ _ (HS0.out _ HB.out) (fun _ => ?_)
            clear hK
            try simp only [List.getElem_toArray, List.getElem_cons_succ, List.getElem_cons_zero, Act.put, List.setIfInBounds_toArray, List.set_cons_zero, List.set_cons_succ]
            refine wpAnyH_ready (rs := [9, 10]) (by kernel_rfl) (by simp) (AllReadyH.cons rfl (fun K hK => ?_) (AllReadyH.cons rfl (fun K hK => ?_) AllReadyH.nil))
            · go_simp
              refine (HT0.out _ HB.out p7 c7 F7.out.1 F7.out.2).mono ?_
              rintro e x5 ⟨rfl, hz⟩
              go_wp2_with fail
              replace F7 := Lib.hid (show _ ∧ _ from ⟨F7.out.1.below hz (Nat.le_refl _), F7.out.2⟩)
              replace HB := Lib.hid (HB.out.trans (hz.mono HB.out.size))
              clear hz
              clear F7
              refine hK.out _ _ (HS0.out _ HB.out) (fun _ => ?_)
              clear hK
              try simp only [List.getElem_toArray, List.getElem_cons_succ, List.getElem_cons_zero, Act.put, List.setIfInBounds_toArray, List.set_cons_zero, List.set_cons_succ]
              refine wpAnyH_ready (rs := [10]) (by kernel_rfl) (by simp) (AllReadyH.cons rfl (fun K hK => ?_) AllReadyH.nil)
              refine st_dig rfl rfl ?_
              intro x6 hz
              have F9 := Lib.hid (show w10.heap.size ≤ x5.heap.size ∧ _ from ⟨HB.out.size, hz.out.1⟩)
              replace HB := Lib.hid (HB.out.trans (hz.out.2.mono HB.out.size))
              clear hz
              refine hK.out _ _ (HS0.out _ HB.out) (fun _ => ?_)
              clear hK
              try simp only [List.getElem_toArray, List.getElem_cons_succ, List.getElem_cons_zero, Act.put, List.setIfInBounds_toArray, List.set_cons_zero, List.set_cons_succ]
              refine wpAnyH_ready (rs := [11]) (by kernel_rfl) (by simp) (AllReadyH.cons rfl (fun K hK => ?_) AllReadyH.nil)
              refine st_store rfl (.tmp 15) (.tmp 75) rfl _ f2 rfl rfl F9.out.2 F9.out.1 HB.out ?_
              intro x7 hz
              refine hK.out _ _ (HS0.out _ hz.out.2) (fun _ => ?_)
              refine wpAnyH_done (by kernel_rfl) ?_ _
              clear hK
              try simp only [List.getElem_toArray, List.getElem_cons_succ, List.getElem_cons_zero, Act.put, List.setIfInBounds_toArray, List.set_cons_zero, List.set_cons_succ]
              go_wp2_with fail
              go_meet
              case rel => exact ⟨_, rfl, Lib.hid (H10.out.add hz.out.2 (Nat.le_refl _) _ hz.out.1 (DigC.kept _ _))⟩
            · refine st_dig rfl rfl ?_
              intro x5 hz
              have F9 := Lib.hid (show w10.heap.size ≤ x4.heap.size ∧ _ from ⟨HB.out.size, hz.out.1⟩)
              replace F7 := Lib.hid (show _ ∧ _ from ⟨F7.out.1.below hz.out.2 (Nat.le_refl _), F7.out.2⟩)
              replace HB := Lib.hid (HB.out.trans (hz.out.2.mono HB.out.size))
              clear hz
              refine hK.out _ _ (HS0.out _ HB.out) (fun _ => ?_)
              clear hK
              try simp only [List.getElem_toArray, List.getElem_cons_succ, List.getElem_cons_zero, Act.put, List.setIfInBounds_toArray, List.set_cons_zero, List.set_cons_succ]
              refine wpAnyH_ready (rs := [9]) (by kernel_rfl) (by simp) (AllReadyH.cons rfl (fun K hK => ?_) AllReadyH.nil)
              go_simp
              refine (HT0.out _ HB.out p7 c7 F7.out.1 F7.out.2).mono ?_
              rintro e x6 ⟨rfl, hz⟩
              go_wp2_with fail
              replace F7 := Lib.hid (show _ ∧ _ from ⟨F7.out.1.below hz (Nat.le_refl _), F7.out.2⟩)
              replace F9 := Lib.hid (show _ ∧ _ from ⟨F9.out.1, obj_below F9.out.2 hz (Nat.le_refl _)⟩)
              replace HB := Lib.hid (HB.out.trans (hz.mono HB.out.size))
              clear hz
              clear F7
              refine hK.out _ _ (HS0.out _ HB.out) (fun _ => ?_)
              clear hK
              try simp only [List.getElem_toArray, List.getElem_cons_succ, List.getElem_cons_zero, Act.put, List.setIfInBounds_toArray, List.set_cons_zero, List.set_cons_succ]
              refine wpAnyH_ready (rs := [11]) (by kernel_rfl) (by simp) (AllReadyH.cons rfl (fun K hK => ?_) AllReadyH.nil)
              refine st_store rfl (.tmp 15) (.tmp 75) rfl _ f2 rfl rfl F9.out.2 F9.out.1 HB.out ?_
              intro x7 hz
              refine hK.out _ _ (HS0.out _ hz.out.2) (fun _ => ?_)
              refine wpAnyH_done (by kernel_rfl) ?_ _
              clear hK
              try simp only [List.getElem_toArray, List.getElem_cons_succ, List.getElem_cons_zero, Act.put, List.setIfInBounds_toArray, List.set_cons_zero, List.set_cons_succ]
              go_wp2_with fail
              go_meet
              case rel => exact ⟨_, rfl, Lib.hid (H10.out.add hz.out.2 (Nat.le_refl _) _ hz.out.1 (DigC.kept _ _))⟩
          · refine st_dig rfl rfl ?_
            intro x4 hz
            have F9 := Lib.hid (show w10.heap.size ≤ x3.heap.size ∧ _ from ⟨HB.out.size, hz.out.1⟩)
            replace F2 := Lib.hid (owns_below F2.out hz.out.2 (Nat.le_refl _))
            replace F6 := Lib.hid (F6.out.below hz.out.2 (Nat.le_refl _))
            replace HB := Lib.hid (HB.out.trans (hz.out.2.mono HB.out.size))
            clear hz
            refine hK.out _ _ (HS0.out _ HB.out) (fun _ => ?_)
            clear hK
            try simp only [List.getElem_toArray, List.getElem_cons_succ, List.getElem_cons_zero, Act.put, List.setIfInBounds_toArray, List.set_cons_zero, List.set_cons_succ]
            refine wpAnyH_ready (rs := [8]) (by kernel_rfl) (by simp) (AllReadyH.cons rfl (fun K hK => ?_) AllReadyH.nil)
            refine st_app rfl (.tmp 68) (.tmp 73) rfl w10.heap.size v2 32 _ rfl F2.out _ 1 1 (fun _ => b) rfl F6.out (by decide) (by decide) HB.out.size ?_
            intro v7 x5 hz
            have ho := hz.out.1
            rw [bl_cat] at ho
            obtain ⟨p7, c7, rfl, hy7, hc7⟩ := Bytes.own ho (fun i hi => bl_get _ _ i hi) CATL.out
            have F7 := Lib.hid (show _ ∧ _ from ⟨hy7, hc7⟩)
            replace F9 := Lib.hid (show _ ∧ _ from ⟨F9.out.1, hz.out.2.2 _ F9.out.2⟩)
            replace HB := Lib.hid (HB.out.trans hz.out.2.1)
            clear F2 F6 ho hy7 hc7 hz
            refine hK.out _ _ (HS0.out _ HB.out) (fun _ => ?_)
            clear hK
            try simp only [List.getElem_toArray, List.getElem_cons_succ, List.getElem_cons_zero, Act.put, List.setIfInBounds_toArray, List.set_cons_zero, List.set_cons_succ]
            refine wpAnyH_ready (rs := [9]) (by kernel_rfl) (by simp) (AllReadyH.cons rfl (fun K hK => ?_) AllReadyH.nil)
            go_simp
            refine (HT0.out _ HB.out p7 c7 F7.out.1 F7.out.2).mono ?_
            rintro e x6 ⟨rfl, hz⟩
            go_wp2_with fail
            replace F9 := Lib.hid (show _ ∧ _ from ⟨F9.out.1, obj_below F9.out.2 hz (Nat.le_refl _)⟩)
            replace F7 := Lib.hid (show _ ∧ _ from ⟨F7.out.1.below hz (Nat.le_refl _), F7.out.2⟩)
            replace HB := Lib.hid (HB.out.trans (hz.mono HB.out.size))
            clear hz
            clear F7
            refine hK.out _ _ (HS0.out _ HB.out) (fun _ => ?_)
            clear hK
            try simp only [List.getElem_toArray, List.getElem_cons_succ, List.getElem_cons_zero, Act.put, List.setIfInBounds_toArray, List.set_cons_zero, List.set_cons_succ]
            refine wpAnyH_ready (rs := [11]) (by kernel_rfl) (by simp) (AllReadyH.cons rfl (fun K hK => ?_) AllReadyH.nil)
            refine st_store rfl (.tmp 15) (.tmp 75) rfl _ f2 rfl rfl F9.out.2 F9.out.1 HB.out ?_
            intro x7 hz
            refine hK.out _ _ (HS0.out _ hz.out.2) (fun _ => ?_)
            refine wpAnyH_done (by kernel_rfl) ?_ _
            clear hK
            try simp only [List.getElem_toArray, List.getElem_cons_succ, List.getElem_cons_zero, Act.put, List.setIfInBounds_toArray, List.set_cons_zero, List.set_cons_succ]
            go_wp2_with fail
            go_meet
            case rel => exact ⟨_, rfl, Lib.hid (H10.out.add hz.out.2 (Nat.le_refl _) _ hz.out.1 (DigC.kept _ _))⟩
        · refine st_dig rfl rfl ?_
          intro x3 hz
          have F9 := Lib.hid (show w10.heap.size ≤ x2.heap.size ∧ _ from ⟨HB.out.size, hz.out.1⟩)
          replace F2 := Lib.hid (owns_below F2.out hz.out.2 (Nat.le_refl _))
          replace HB := Lib.hid (HB.out.trans (hz.out.2.mono HB.out.size))
          clear hz
          refine hK.out _ _ (HS0.out _ HB.out) (fun _ => ?_)
          clear hK
          try simp only [List.getElem_toArray, List.getElem_cons_succ, List.getElem_cons_zero, Act.put, List.setIfInBounds_toArray, List.set_cons_zero, List.set_cons_succ]
          refine wpAnyH_ready (rs := [7]) (by kernel_rfl) (by simp) (AllReadyH.cons rfl (fun K hK => ?_) AllReadyH.nil)
          refine st_new1 rfl (.tmp 72) rfl b HBN.out rfl ?_
          intro x4 hz
          have F6 := Lib.hid hz.out.1
          replace F2 := Lib.hid (owns_below F2.out hz.out.2 (Nat.le_refl _))
          replace F9 := Lib.hid (show _ ∧ _ from ⟨F9.out.1, obj_below F9.out.2 hz.out.2 (Nat.le_refl _)⟩)
          replace HB := Lib.hid (HB.out.trans (hz.out.2.mono HB.out.size))
          clear hz
          refine hK.out _ _ (HS0.out _ HB.out) (fun _ => ?_)
          clear hK
          try simp only [List.getElem_toArray, List.getElem_cons_succ, List.getElem_cons_zero, Act.put, List.setIfInBounds_toArray, List.set_cons_zero, List.set_cons_succ]
          refine wpAnyH_ready (rs := [8]) (by kernel_rfl) (by simp) (AllReadyH.cons rfl (fun K hK => ?_) AllReadyH.nil)
          refine st_app rfl (.tmp 68) (.tmp 73) rfl w10.heap.size v2 32 _ rfl F2.out _ 1 1 (fun _ => b) rfl F6.out (by decide) (by decide) HB.out.size ?_
          intro v7 x5 hz
          have ho := hz.out.1
          rw [bl_cat] at ho
          obtain ⟨p7, c7, rfl, hy7, hc7⟩ := Bytes.own ho (fun i hi => bl_get _ _ i hi) CATL.out
          have F7 := Lib.hid (show _ ∧ _ from ⟨hy7, hc7⟩)
          replace F9 := Lib.hid (show _ ∧ _ from ⟨F9.out.1, hz.out.2.2 _ F9.out.2⟩)
          replace HB := Lib.hid (HB.out.trans hz.out.2.1)
          clear F2 F6 ho hy7 hc7 hz
          refine hK.out _ _ (HS0.out _ HB.out) (fun _ => ?_)
          clear hK
          try simp only [List.getElem_toArray, List.getElem_cons_succ, List.getElem_cons_zero, Act.put, List.setIfInBounds_toArray, List.set_cons_zero, List.set_cons_succ]
          refine wpAnyH_ready (rs := [9]) (by kernel_rfl) (by simp) (AllReadyH.cons rfl (fun K hK => ?_) AllReadyH.nil)
          go_simp
          refine (HT0.out _ HB.out p7 c7 F7.out.1 F7.out.2).mono ?_
          rintro e x6 ⟨rfl, hz⟩
          go_wp2_with fail
          replace F9 := Lib.hid (show _ ∧ _ from ⟨F9.out.1, obj_below F9.out.2 hz (Nat.le_refl _)⟩)
          replace F7 := Lib.hid (show _ ∧ _ from ⟨F7.out.1.below hz (Nat.le_refl _), F7.out.2⟩)
          replace HB := Lib.hid (HB.out.trans (hz.mono HB.out.size))
          clear hz
          clear F7
          refine hK.out _ _ (HS0.out _ HB.out) (fun _ => ?_)
          clear hK
          try simp only [List.getElem_toArray, List.getElem_cons_succ, List.getElem_cons_zero, Act.put, List.setIfInBounds_toArray, List.set_cons_zero, List.set_cons_succ]
          refine wpAnyH_ready (rs := [11]) (by kernel_rfl) (by simp) (AllReadyH.cons rfl (fun K hK => ?_) AllReadyH.nil)
          refine st_store rfl (.tmp 15) (.tmp 75) rfl _ f2 rfl rfl F9.out.2 F9.out.1 HB.out ?_
          intro x7 hz
          refine hK.out _ _ (HS0.out _ hz.out.2) (fun _ => ?_)
          refine wpAnyH_done (by kernel_rfl) ?_ _
          clear hK
          try simp only [List.getElem_toArray, List.getElem_cons_succ, List.getElem_cons_zero, Act.put, List.setIfInBounds_toArray, List.set_cons_zero, List.set_cons_succ]
          go_wp2_with fail
          go_meet
          case rel => exact ⟨_, rfl, Lib.hid (H10.out.add hz.out.2 (Nat.le_refl _) _ hz.out.1 (DigC.kept _ _))⟩
      · refine st_new1 rfl (.tmp 72) rfl b HBN.out rfl ?_
        intro x2 hz
        have F6 := Lib.hid hz.out.1
        replace HB := Lib.hid (HB.out.trans (hz.out.2.mono HB.out.size))
        clear hz
        refine hK.out _ _ (HS0.out _ HB.out) (fun _ => ?_)
        clear hK
        try simp only [List.getElem_toArray, List.getElem_cons_succ, List.getElem_cons_zero, Act.put, List.setIfInBounds_toArray, List.set_cons_zero, List.set_cons_succ]
        refine wpAnyH_ready (rs := [2, 10]) (by kernel_rfl) (by simp) (AllReadyH.cons rfl (fun K hK => ?_) (AllReadyH.cons rfl (fun K hK => ?_) AllReadyH.nil))
        · refine st_app0 rfl (.tmp 66) (.tmp 67) rfl _ rfl _ 32 32 k rfl (HK0.out.below HB.out (Nat.le_refl _)) (by decide) (by decide) ?_
          intro v2 x3 hz
          have F2 := Lib.hid (own_le hz.out.1 HB.out.size)
          replace F6 := Lib.hid (F6.out.below hz.out.2 (Nat.le_refl _))
          replace HB := Lib.hid (HB.out.trans (hz.out.2.mono HB.out.size))
          clear hz
          refine hK.out _ _ (HS0.out _ HB.out) (fun _ => ?_)
          clear hK
          try simp only [List.getElem_toArray, List.getElem_cons_succ, List.getElem_cons_zero, Act.put, List.setIfInBounds_toArray, List.set_cons_zero, List.set_cons_succ]
          refine wpAnyH_ready (rs := [8, 10]) (by kernel_rfl) (by simp) (AllReadyH.cons rfl (fun K hK => ?_) (AllReadyH.cons rfl (fun K hK => ?_) AllReadyH.nil))
          · refine st_app rfl (.tmp 68) (.tmp 73) rfl w10.heap.size v2 32 _ rfl F2.out _ 1 1 (fun _ => b) rfl F6.out (by decide) (by decide) HB.out.size ?_
            intro v7 x4 hz
            have ho := hz.out.1
            rw [bl_cat] at ho
            obtain ⟨p7, c7, rfl, hy7, hc7⟩ := Bytes.own ho (fun i hi => bl_get _ _ i hi) CATL.out
            have F7 := Lib.hid (show _ ∧ _ from ⟨hy7, hc7⟩)
            replace HB := Lib.hid (HB.out.trans hz.out.2.1)
            clear F2 F6 ho hy7 hc7 hz
            refine hK.out _ _ (HS0.out _ HB.out) (fun _ => ?_)
            clear hK
            try simp only [List.getElem_toArray, List.getElem_cons_succ, List.getElem_cons_zero, Act.put, List.setIfInBounds_toArray, List.set_cons_zero, List.set_cons_succ]
            refine wpAnyH_ready (rs := [9, 10]) (by kernel_rfl) (by simp) (AllReadyH.cons rfl (fun K hK => ?_) (AllReadyH.cons rfl (fun K hK => ?_) AllReadyH.nil))
            · go_simp
              refine (HT0.out _ HB.out p7 c7 F7.out.1 F7.out.2).mono ?_
              rintro e x5 ⟨rfl, hz⟩
              go_wp2_with fail
              replace F7 := Lib.hid (show _ ∧ _ from ⟨F7.out.1.below hz (Nat.le_refl _), F7.out.2⟩)
              replace HB := Lib.hid (HB.out.trans (hz.mono HB.out.size))
              clear hz
              clear F7
              refine hK.out _ _ (HS0.out _ HB.out) (fun _ => ?_)
              clear hK
              try simp only [List.getElem_toArray, List.getElem_cons_succ, List.getElem_cons_zero, Act.put, List.setIfInBounds_toArray, List.set_cons_zero, List.set_cons_succ]
              refine wpAnyH_ready (rs := [10]) (by kernel_rfl) (by simp) (AllReadyH.cons rfl (fun K hK => ?_) AllReadyH.nil)
              refine st_dig rfl rfl ?_
              intro x6 hz
              have F9 := Lib.hid (show w10.heap.size ≤ x5.heap.size ∧ _ from ⟨HB.out.size, hz.out.1⟩)
              replace HB := Lib.hid (HB.out.trans (hz.out.2.mono HB.out.size))
              clear hz
              refine hK.out _ _ (HS0.out _ HB.out) (fun _ => ?_)
              clear hK
              try simp only [List.getElem_toArray, List.getElem_cons_succ, List.getElem_cons_zero, Act.put, List.setIfInBounds_toArray, List.set_cons_zero, List.set_cons_succ]
              refine wpAnyH_ready (rs := [11]) (by kernel_rfl) (by simp) (AllReadyH.cons rfl (fun K hK => ?_) AllReadyH.nil)
              refine st_store rfl (.tmp 15) (.tmp 75) rfl _ f2 rfl rfl F9.out.2 F9.out.1 HB.out ?_
              intro x7 hz
              refine hK.out _ _ (HS0.out _ hz.out.2) (fun _ => ?_)
              refine wpAnyH_done (by kernel_rfl) ?_ _
              clear hK
              try simp only [List.getElem_toArray, List.getElem_cons_succ, List.getElem_cons_zero, Act.put, List.setIfInBounds_toArray, List.set_cons_zero, List.set_cons_succ]
              go_wp2_with fail
              go_meet
              case rel => exact ⟨_, rfl, Lib.hid (H10.out.add hz.out.2 (Nat.le_refl _) _ hz.out.1 (DigC.kept _ _))⟩
            · refine st_dig rfl rfl ?_
              intro x5 hz
              have F9 := Lib.hid (show w10.heap.size ≤ x4.heap.size ∧ _ from ⟨HB.out.size, hz.out.1⟩)
              replace F7 := Lib.hid (show _ ∧ _ from ⟨F7.out.1.below hz.out.2 (Nat.le_refl _), F7.out.2⟩)
              replace HB := Lib.hid (HB.out.trans (hz.out.2.mono HB.out.size))
              clear hz
              refine hK.out _ _ (HS0.out _ HB.out) (fun _ => ?_)
              clear hK
              try simp only [List.getElem_toArray, List.getElem_cons_succ, List.getElem_cons_zero, Act.put, List.setIfInBounds_toArray, List.set_cons_zero, List.set_cons_succ]
              refine wpAnyH_ready (rs := [9]) (by kernel_rfl) (by simp) (AllReadyH.cons rfl (fun K hK => ?_) AllReadyH.nil)
              go_simp
              refine (HT0.out _ HB.out p7 c7 F7.out.1 F7.out.2).mono ?_
              rintro e x6 ⟨rfl, hz⟩
              go_wp2_with fail
              replace F7 := Lib.hid (show _ ∧ _ from ⟨F7.out.1.below hz (Nat.le_refl _), F7.out.2⟩)
              replace F9 := Lib.hid (show _ ∧ _ from ⟨F9.out.1, obj_below F9.out.2 hz (Nat.le_refl _)⟩)
              replace HB := Lib.hid (HB.out.trans (hz.mono HB.out.size))
              clear hz
              clear F7
              refine hK.out _ _ (HS0.out _ HB.out) (fun _ => ?_)
              clear hK
              try simp only [List.getElem_toArray, List.getElem_cons_succ, List.getElem_cons_zero, Act.put, List.setIfInBounds_toArray, List.set_cons_zero, List.set_cons_succ]
              refine wpAnyH_ready (rs := [11]) (by kernel_rfl) (by simp) (AllReadyH.cons rfl (fun K hK => ?_) AllReadyH.nil)
              refine st_store rfl (.tmp 15) (.tmp 75) rfl _ f2 rfl rfl F9.out.2 F9.out.1 HB.out ?_
              intro x7 hz
              refine hK.out _ _ (HS0.out _ hz.out.2) (fun _ => ?_)
              refine wpAnyH_done (by kernel_rfl) ?_ _
              clear hK
              try simp only [List.getElem_toArray, List.getElem_cons_succ, List.getElem_cons_zero, Act.put, List.setIfInBounds_toArray, List.set_cons_zero, List.set_cons_succ]
              go_wp2_with fail
              go_meet
              case rel => exact ⟨_, rfl, Lib.hid (H10.out.add hz.out.2 (Nat.le_refl _) _ hz.out.1 (DigC.kept _ _))⟩
          · refine st_dig rfl rfl ?_
            intro x4 hz
            have F9 := Lib.hid (show w10.heap.size ≤ x3.heap.size ∧ _ from ⟨HB.out.size, hz.out.1⟩)
            replace F6 := Lib.hid (F6.out.below hz.out.2 (Nat.le_refl _))
            replace F2 := Lib.hid (owns_below F2.out hz.out.2 (Nat.le_refl _))
            replace HB := Lib.hid (HB.out.trans (hz.out.2.mono HB.out.size))
            clear hz
            refine hK.out _ _ (HS0.out _ HB.out) (fun _ => ?_)
            clear hK
            try simp only [List.getElem_toArray, List.getElem_cons_succ, List.getElem_cons_zero, Act.put, List.setIfInBounds_toArray, List.set_cons_zero, List.set_cons_succ]
            refine wpAnyH_ready (rs := [8]) (by kernel_rfl) (by simp) (AllReadyH.cons rfl (fun K hK => ?_) AllReadyH.nil)
            refine st_app rfl (.tmp 68) (.tmp 73) rfl w10.heap.size v2 32 _ rfl F2.out _ 1 1 (fun _ => b) rfl F6.out (by decide) (by decide) HB.out.size ?_
            intro v7 x5 hz
            have ho := hz.out.1
            rw [bl_cat] at ho
            obtain ⟨p7, c7, rfl, hy7, hc7⟩ := Bytes.own ho (fun i hi => bl_get _ _ i hi) CATL.out
            have F7 := Lib.hid (show _ ∧ _ from ⟨hy7, hc7⟩)
            replace F9 := Lib.hid (show _ ∧ _ from ⟨F9.out.1, hz.out.2.2 _ F9.out.2⟩)
            replace HB := Lib.hid (HB.out.trans hz.out.2.1)
            clear F2 F6 ho hy7 hc7 hz
            refine hK.out _ _ (HS0.out _ HB.out) (fun _ => ?_)
            clear hK
            try simp only [List.getElem_toArray, List.getElem_cons_succ, List.getElem_cons_zero, Act.put, List.setIfInBounds_toArray, List.set_cons_zero, List.set_cons_succ]
            refine wpAnyH_ready (rs := [9]) (by kernel_rfl) (by simp) (AllReadyH.cons rfl (fun K hK => ?_) AllReadyH.nil)
            go_simp
            refine (HT0.out _ HB.out p7 c7 F7.out.1 F7.out.2).mono ?_
            rintro e x6 ⟨rfl, hz⟩
            go_wp2_with fail
            replace F9 := Lib.hid (show _ ∧ _ from ⟨F9.out.1, obj_below F9.out.2 hz (Nat.le_refl _)⟩)
            replace F7 := Lib.hid (show _ ∧ _ from ⟨F7.out.1.below hz (Nat.le_refl _), F7.out.2⟩)
            replace HB := Lib.hid (HB.out.trans (hz.mono HB.out.size))
            clear hz
            clear F7
            refine hK.out _ _ (HS0.out _ HB.out) (fun _ => ?_)
            clear hK
            try simp only [List.getElem_toArray, List.getElem_cons_succ, List.getElem_cons_zero, Act.put, List.setIfInBounds_toArray, List.set_cons_zero, List.set_cons_succ]
            refine wpAnyH_ready (rs := [11]) (by kernel_rfl) (by simp) (AllReadyH.cons rfl (fun K hK => ?_) AllReadyH.nil)
            refine st_store rfl (.tmp 15) (.tmp 75) rfl _ f2 rfl rfl F9.out.2 F9.out.1 HB.out ?_
            intro x7 hz
            refine hK.out _ _ (HS0.out _ hz.out.2) (fun _ => ?_)
            refine wpAnyH_done (by kernel_rfl) ?_ _
            clear hK
            try simp only [List.getElem_toArray, List.getElem_cons_succ, List.getElem_cons_zero, Act.put, List.setIfInBounds_toArray, List.set_cons_zero, List.set_cons_succ]
            go_wp2_with fail
            go_meet
            case rel => exact ⟨_, rfl, Lib.hid (H10.out.add hz.out.2 (Nat.le_refl _) _ hz.out.1 (DigC.kept _ _))⟩
        · refine st_dig rfl rfl ?_
          intro x3 hz
          have F9 := Lib.hid (show w10.heap.size ≤ x2.heap.size ∧ _ from ⟨HB.out.size, hz.out.1⟩)
          replace F6 := Lib.hid (F6.out.below hz.out.2 (Nat.le_refl _))
          replace HB := Lib.hid (HB.out.trans (hz.out.2.mono HB.out.size))
          clear hz
          refine hK.out _ _ (HS0.out _ HB.out) (fun _ => ?_)
          clear hK
          try simp only [List.getElem_toArray, List.getElem_cons_succ, List.getElem_cons_zero, Act.put, List.setIfInBounds_toArray, List.set_cons_zero, List.set_cons_succ]
          refine wpAnyH_ready (rs := [2]) (by kernel_rfl) (by simp) (AllReadyH.cons rfl (fun K hK => ?_) AllReadyH.nil)
          refine st_app0 rfl (.tmp 66) (.tmp 67) rfl _ rfl _ 32 32 k rfl (HK0.out.below HB.out (Nat.le_refl _)) (by decide) (by decide) ?_
          intro v2 x4 hz
          have F2 := Lib.hid (own_le hz.out.1 HB.out.size)
          replace F6 := Lib.hid (F6.out.below hz.out.2 (Nat.le_refl _))
          replace F9 := Lib.hid (show _ ∧ _ from ⟨F9.out.1, obj_below F9.out.2 hz.out.2 (Nat.le_refl _)⟩)
          replace HB := Lib.hid (HB.out.trans (hz.out.2.mono HB.out.size))
          clear hz
          refine hK.out _ _ (HS0.out _ HB.out) (fun _ => ?_)
          clear hK
          try simp only [List.getElem_toArray, List.getElem_cons_succ, List.getElem_cons_zero, Act.put, List.setIfInBounds_toArray, List.set_cons_zero, List.set_cons_succ]
          refine wpAnyH_ready (rs := [8]) (by kernel_rfl) (by simp) (AllReadyH.cons rfl (fun K hK => ?_) AllReadyH.nil)
          refine st_app rfl (.tmp 68) (.tmp 73) rfl w10.heap.size v2 32 _ rfl F2.out _ 1 1 (fun _ => b) rfl F6.out (by decide) (by decide) HB.out.size ?_
          intro v7 x5 hz
          have ho := hz.out.1
          rw [bl_cat] at ho
          obtain ⟨p7, c7, rfl, hy7, hc7⟩ := Bytes.own ho (fun i hi => bl_get _ _ i hi) CATL.out
          have F7 := Lib.hid (show _ ∧ _ from ⟨hy7, hc7⟩)
          replace F9 := Lib.hid (show _ ∧ _ from ⟨F9.out.1, hz.out.2.2 _ F9.out.2⟩)
          replace HB := Lib.hid (HB.out.trans hz.out.2.1)
          clear F2 F6 ho hy7 hc7 hz
          refine hK.out _ _ (HS0.out _ HB.out) (fun _ => ?_)
          clear hK
          try simp only [List.getElem_toArray, List.getElem_cons_succ, List.getElem_cons_zero, Act.put, List.setIfInBounds_toArray, List.set_cons_zero, List.set_cons_succ]
          refine wpAnyH_ready (rs := [9]) (by kernel_rfl) (by simp) (AllReadyH.cons rfl (fun K hK => ?_) AllReadyH.nil)
          go_simp
          refine (HT0.out _ HB.out p7 c7 F7.out.1 F7.out.2).mono ?_
          rintro e x6 ⟨rfl, hz⟩
          go_wp2_with fail
          replace F9 := Lib.hid (show _ ∧ _ from ⟨F9.out.1, obj_below F9.out.2 hz (Nat.le_refl _)⟩)
          replace F7 := Lib.hid (show _ ∧ _ from ⟨F7.out.1.below hz (Nat.le_refl _), F7.out.2⟩)
          replace HB := Lib.hid (HB.out.trans (hz.mono HB.out.size))
          clear hz
          clear F7
          refine hK.out _ _ (HS0.out _ HB.out) (fun _ => ?_)
          clear hK
          try simp only [List.getElem_toArray, List.getElem_cons_succ, List.getElem_cons_zero, Act.put, List.setIfInBounds_toArray, List.set_cons_zero, List.set_cons_succ]
          refine wpAnyH_ready (rs := [11]) (by kernel_rfl) (by simp) (AllReadyH.cons rfl (fun K hK => ?_) AllReadyH.nil)
          refine st_store rfl (.tmp 15) (.tmp 75) rfl _ f2 rfl rfl F9.out.2 F9.out.1 HB.out ?_
          intro x7 hz
          refine hK.out _ _ (HS0.out _ hz.out.2) (fun _ => ?_)
          refine wpAnyH_done (by kernel_rfl) ?_ _
          clear hK
          try simp only [List.getElem_toArray, List.getElem_cons_succ, List.getElem_cons_zero, Act.put, List.setIfInBounds_toArray, List.set_cons_zero, List.set_cons_succ]
          go_wp2_with fail
          go_meet
          case rel => exact ⟨_, rfl, Lib.hid (H10.out.add hz.out.2 (Nat.le_refl _) _ hz.out.1 (DigC.kept _ _))⟩
      · refine st_dig rfl rfl ?_
        intro x2 hz
        have F9 := Lib.hid (show w10.heap.size ≤ x1.heap.size ∧ _ from ⟨HB.out.size, hz.out.1⟩)
        replace HB := Lib.hid (HB.out.trans (hz.out.2.mono HB.out.size))
        clear hz
        refine hK.out _ _ (HS0.out _ HB.out) (fun _ => ?_)
        clear hK
        try simp only [List.getElem_toArray, List.getElem_cons_succ, List.getElem_cons_zero, Act.put, List.setIfInBounds_toArray, List.set_cons_zero, List.set_cons_succ]
        refine wpAnyH_ready (rs := [2, 7]) (by kernel_rfl) (by simp) (AllReadyH.cons rfl (fun K hK => ?_) (AllReadyH.cons rfl (fun K hK => ?_) AllReadyH.nil))
        · refine st_app0 rfl (.tmp 66) (.tmp 67) rfl _ rfl _ 32 32 k rfl (HK0.out.below HB.out (Nat.le_refl _)) (by decide) (by decide) ?_
          intro v2 x3 hz
          have F2 := Lib.hid (own_le hz.out.1 HB.out.size)
          replace F9 := Lib.hid (show _ ∧ _ from ⟨F9.out.1, obj_below F9.out.2 hz.out.2 (Nat.le_refl _)⟩)
          replace HB := Lib.hid (HB.out.trans (hz.out.2.mono HB.out.size))
          clear hz
          refine hK.out _ _ (HS0.out _ HB.out) (fun _ => ?_)
          clear hK
          try simp only [List.getElem_toArray, List.getElem_cons_succ, List.getElem_cons_zero, Act.put, List.setIfInBounds_toArray, List.set_cons_zero, List.set_cons_succ]
          refine wpAnyH_ready (rs := [7]) (by kernel_rfl) (by simp) (AllReadyH.cons rfl (fun K hK => ?_) AllReadyH.nil)
          refine st_new1 rfl (.tmp 72) rfl b HBN.out rfl ?_
          intro x4 hz
          have F6 := Lib.hid hz.out.1
          replace F9 := Lib.hid (show _ ∧ _ from ⟨F9.out.1, obj_below F9.out.2 hz.out.2 (Nat.le_refl _)⟩)
          replace F2 := Lib.hid (owns_below F2.out hz.out.2 (Nat.le_refl _))
          replace HB := Lib.hid (HB.out.trans (hz.out.2.mono HB.out.size))
          clear hz
          refine hK.out _ _ (HS0.out _ HB.out) (fun _ => ?_)
          clear hK
          try simp only [List.getElem_toArray, List.getElem_cons_succ, List.getElem_cons_zero, Act.put, List.setIfInBounds_toArray, List.set_cons_zero, List.set_cons_succ]
          refine wpAnyH_ready (rs := [8]) (by kernel_rfl) (by simp) (AllReadyH.cons rfl (fun K hK => ?_) AllReadyH.nil)
          refine st_app rfl (.tmp 68) (.tmp 73) rfl w10.heap.size v2 32 _ rfl F2.out _ 1 1 (fun _ => b) rfl F6.out (by decide) (by decide) HB.out.size ?_
          intro v7 x5 hz
          have ho := hz.out.1
          rw [bl_cat] at ho
          obtain ⟨p7, c7, rfl, hy7, hc7⟩ := Bytes.own ho (fun i hi => bl_get _ _ i hi) CATL.out
          have F7 := Lib.hid (show _ ∧ _ from ⟨hy7, hc7⟩)
          replace F9 := Lib.hid (show _ ∧ _ from ⟨F9.out.1, hz.out.2.2 _ F9.out.2⟩)
          replace HB := Lib.hid (HB.out.trans hz.out.2.1)
          clear F2 F6 ho hy7 hc7 hz
          refine hK.out _ _ (HS0.out _ HB.out) (fun _ => ?_)
          clear hK
          try simp only [List.getElem_toArray, List.getElem_cons_succ, List.getElem_cons_zero, Act.put, List.setIfInBounds_toArray, List.set_cons_zero, List.set_cons_succ]
          refine wpAnyH_ready (rs := [9]) (by kernel_rfl) (by simp) (AllReadyH.cons rfl (fun K hK => ?_) AllReadyH.nil)
          go_simp
          refine (HT0.out _ HB.out p7 c7 F7.out.1 F7.out.2).mono ?_
          rintro e x6 ⟨rfl, hz⟩
          go_wp2_with fail
          replace F9 := Lib.hid (show _ ∧ _ from ⟨F9.out.1, obj_below F9.out.2 hz (Nat.le_refl _)⟩)
          replace F7 := Lib.hid (show _ ∧ _ from ⟨F7.out.1.below hz (Nat.le_refl _), F7.out.2⟩)
          replace HB := Lib.hid (HB.out.trans (hz.mono HB.out.size))
          clear hz
          clear F7
          refine hK.out _ _ (HS0.out _ HB.out) (fun _ => ?_)
          clear hK
          try simp only [List.getElem_toArray, List.getElem_cons_succ, List.getElem_cons_zero, Act.put, List.setIfInBounds_toArray, List.set_cons_zero, List.set_cons_succ]
          refine wpAnyH_ready (rs := [11]) (by kernel_rfl) (by simp) (AllReadyH.cons rfl (fun K hK => ?_) AllReadyH.nil)
          refine st_store rfl (.tmp 15) (.tmp 75) rfl _ f2 rfl rfl F9.out.2 F9.out.1 HB.out ?_
          intro x7 hz
          refine hK.out _ _ (HS0.out _ hz.out.2) (fun _ => ?_)
          refine wpAnyH_done (by kernel_rfl) ?_ _
          clear hK
          try simp only [List.getElem_toArray, List.getElem_cons_succ, List.getElem_cons_zero, Act.put, List.setIfInBounds_toArray, List.set_cons_zero, List.set_cons_succ]
          go_wp2_with fail
          go_meet
          case rel => exact ⟨_, rfl, Lib.hid (H10.out.add hz.out.2 (Nat.le_refl _) _ hz.out.1 (DigC.kept _ _))⟩
        · refine st_new1 rfl (.tmp 72) rfl b HBN.out rfl ?_
          intro x3 hz
          have F6 := Lib.hid hz.out.1
          replace F9 := Lib.hid (show _ ∧ _ from ⟨F9.out.1, obj_below F9.out.2 hz.out.2 (Nat.le_refl _)⟩)
          replace HB := Lib.hid (HB.out.trans (hz.out.2.mono HB.out.size))
          clear hz
          refine hK.out _ _ (HS0.out _ HB.out) (fun _ => ?_)
          clear hK
          try simp only [List.getElem_toArray, List.getElem_cons_succ, List.getElem_cons_zero, Act.put, List.setIfInBounds_toArray, List.set_cons_zero, List.set_cons_succ]
          refine wpAnyH_ready (rs := [2]) (by kernel_rfl) (by simp) (AllReadyH.cons rfl (fun K hK => ?_) AllReadyH.nil)
          refine st_app0 rfl (.tmp 66) (.tmp 67) rfl _ rfl _ 32 32 k rfl (HK0.out.below HB.out (Nat.le_refl _)) (by decide) (by decide) ?_
          intro v2 x4 hz
          have F2 := Lib.hid (own_le hz.out.1 HB.out.size)
          replace F9 := Lib.hid (show _ ∧ _ from ⟨F9.out.1, obj_below F9.out.2 hz.out.2 (Nat.le_refl _)⟩)
          replace F6 := Lib.hid (F6.out.below hz.out.2 (Nat.le_refl _))
          replace HB := Lib.hid (HB.out.trans (hz.out.2.mono HB.out.size))
          clear hz
          refine hK.out _ _ (HS0.out _ HB.out) (fun _ => ?_)
          clear hK
          try simp only [List.getElem_toArray, List.getElem_cons_succ, List.getElem_cons_zero, Act.put, List.setIfInBounds_toArray, List.set_cons_zero, List.set_cons_succ]
          refine wpAnyH_ready (rs := [8]) (by kernel_rfl) (by simp) (AllReadyH.cons rfl (fun K hK => ?_) AllReadyH.nil)
          refine st_app rfl (.tmp 68) (.tmp 73) rfl w10.heap.size v2 32 _ rfl F2.out _ 1 1 (fun _ => b) rfl F6.out (by decide) (by decide) HB.out.size ?_
          intro v7 x5 hz
          have ho := hz.out.1
          rw [bl_cat] at ho
          obtain ⟨p7, c7, rfl, hy7, hc7⟩ := Bytes.own ho (fun i hi => bl_get _ _ i hi) CATL.out
          have F7 := Lib.hid (show _ ∧ _ from ⟨hy7, hc7⟩)
          replace F9 := Lib.hid (show _ ∧ _ from ⟨F9.out.1, hz.out.2.2 _ F9.out.2⟩)
          replace HB := Lib.hid (HB.out.trans hz.out.2.1)
          clear F2 F6 ho hy7 hc7 hz
          refine hK.out _ _ (HS0.out _ HB.out) (fun _ => ?_)
          clear hK
          try simp only [List.getElem_toArray, List.getElem_cons_succ, List.getElem_cons_zero, Act.put, List.setIfInBounds_toArray, List.set_cons_zero, List.set_cons_succ]
          refine wpAnyH_ready (rs := [9]) (by kernel_rfl) (by simp) (AllReadyH.cons rfl (fun K hK => ?_) AllReadyH.nil)
          go_simp
          refine (HT0.out _ HB.out p7 c7 F7.out.1 F7.out.2).mono ?_
          rintro e x6 ⟨rfl, hz⟩
          go_wp2_with fail
          replace F9 := Lib.hid (show _ ∧ _ from ⟨F9.out.1, obj_below F9.out.2 hz (Nat.le_refl _)⟩)
          replace F7 := Lib.hid (show _ ∧ _ from ⟨F7.out.1.below hz (Nat.le_refl _), F7.out.2⟩)
          replace HB := Lib.hid (HB.out.trans (hz.mono HB.out.size))
          clear hz
          clear F7
          refine hK.out _ _ (HS0.out _ HB.out) (fun _ => ?_)
          clear hK
          try simp only [List.getElem_toArray, List.getElem_cons_succ, List.getElem_cons_zero, Act.put, List.setIfInBounds_toArray, List.set_cons_zero, List.set_cons_succ]
          refine wpAnyH_ready (rs := [11]) (by kernel_rfl) (by simp) (AllReadyH.cons rfl (fun K hK => ?_) AllReadyH.nil)
          refine st_store rfl (.tmp 15) (.tmp 75) rfl _ f2 rfl rfl F9.out.2 F9.out.1 HB.out ?_
          intro x7 hz
          refine hK.out _ _ (HS0.out _ hz.out.2) (fun _ => ?_)
          refine wpAnyH_done (by kernel_rfl) ?_ _
          clear hK
          try simp only [List.getElem_toArray, List.getElem_cons_succ, List.getElem_cons_zero, Act.put, List.setIfInBounds_toArray, List.set_cons_zero, List.set_cons_succ]
          go_wp2_with fail
          go_meet
          case rel => exact ⟨_, rfl, Lib.hid (H10.out.add hz.out.2 (Nat.le_refl _) _ hz.out.1 (DigC.kept _ _))⟩
    · refine st_new1 rfl (.tmp 72) rfl b HBN.out rfl ?_
      intro x1 hz
      have F6 := Lib.hid hz.out.1
      replace HB := Lib.hid (HB.out.trans (hz.out.2.mono HB.out.size))
      clear hz
      refine hK.out _ _ (HS0.out _ HB.out) (fun _ => ?_)
      clear hK
      try simp only [List.getElem_toArray, List.getElem_cons_succ, List.getElem_cons_zero, Act.put, List.setIfInBounds_toArray, List.set_cons_zero, List.set_cons_succ]
      refine wpAnyH_ready (rs := [0, 10]) (by kernel_rfl) (by simp) (AllReadyH.cons rfl (fun K hK => ?_) (AllReadyH.cons rfl (fun K hK => ?_) AllReadyH.nil))
      · refine st_new0 rfl rfl ?_
        intro x2 hz
        replace F6 := Lib.hid (F6.out.below hz.out.2 (Nat.le_refl _))
        replace HB := Lib.hid (HB.out.trans (hz.out.2.mono HB.out.size))
        clear hz
        refine hK.out _ _ (HS0.out _ HB.out) (fun _ => ?_)
        clear hK
        try simp only [List.getElem_toArray, List.getElem_cons_succ, List.getElem_cons_zero, Act.put, List.setIfInBounds_toArray, List.set_cons_zero, List.set_cons_succ]
        refine wpAnyH_ready (rs := [2, 10]) (by kernel_rfl) (by simp) (AllReadyH.cons rfl (fun K hK => ?_) (AllReadyH.cons rfl (fun K hK => ?_) AllReadyH.nil))
        · refine st_app0 rfl (.tmp 66) (.tmp 67) rfl _ rfl _ 32 32 k rfl (HK0.out.below HB.out (Nat.le_refl _)) (by decide) (by decide) ?_
          intro v2 x3 hz
          have F2 := Lib.hid (own_le hz.out.1 HB.out.size)
          replace F6 := Lib.hid (F6.out.below hz.out.2 (Nat.le_refl _))
          replace HB := Lib.hid (HB.out.trans (hz.out.2.mono HB.out.size))
          clear hz
          refine hK.out _ _ (HS0.out _ HB.out) (fun _ => ?_)
          clear hK
          try simp only [List.getElem_toArray, List.getElem_cons_succ, List.getElem_cons_zero, Act.put, List.setIfInBounds_toArray, List.set_cons_zero, List.set_cons_succ]
          refine wpAnyH_ready (rs := [8, 10]) (by kernel_rfl) (by simp) (AllReadyH.cons rfl (fun K hK => ?_) (AllReadyH.cons rfl (fun K hK => ?_) AllReadyH.nil))
          · refine st_app rfl (.tmp 68) (.tmp 73) rfl w10.heap.size v2 32 _ rfl F2.out _ 1 1 (fun _ => b) rfl F6.out (by decide) (by decide) HB.out.size ?_
            intro v7 x4 hz
            have ho := hz.out.1
            rw [bl_cat] at ho
            obtain ⟨p7, c7, rfl, hy7, hc7⟩ := Bytes.own ho (fun i hi => bl_get _ _ i hi) CATL.out
            have F7 := Lib.hid (show _ ∧ _ from ⟨hy7, hc7⟩)
            replace HB := Lib.hid (HB.out.trans hz.out.2.1)
            clear F2 F6 ho hy7 hc7 hz
            refine hK.out _ _ (HS0.out _ HB.out) (fun _ => ?_)
            clear hK
            try simp only [List.getElem_toArray, List.getElem_cons_succ, List.getElem_cons_zero, Act.put, List.setIfInBounds_toArray, List.set_cons_zero, List.set_cons_succ]
            refine wpAnyH_ready (rs := [9, 10]) (by kernel_rfl) (by simp) (AllReadyH.cons rfl (fun K hK => ?_) (AllReadyH.cons rfl (fun K hK => ?_) AllReadyH.nil))
            · go_simp
              refine (HT0.out _ HB.out p7 c7 F7.out.1 F7.out.2).mono ?_
              rintro e x5 ⟨rfl, hz⟩
              go_wp2_with fail
              replace F7 := Lib.hid (show _ ∧ _ from ⟨F7.out.1.below hz (Nat.le_refl _), F7.out.2⟩)
              replace HB := Lib.hid (HB.out.trans (hz.mono HB.out.size))
              clear hz
              clear F7
              refine hK.out _ _ (HS0.out _ HB.out) (fun _ => ?_)
              clear hK
              try simp only [List.getElem_toArray, List.getElem_cons_succ, List.getElem_cons_zero, Act.put, List.setIfInBounds_toArray, List.set_cons_zero, List.set_cons_succ]
              refine wpAnyH_ready (rs := [10]) (by kernel_rfl) (by simp) (AllReadyH.cons rfl (fun K hK => ?_) AllReadyH.nil)
              refine st_dig rfl rfl ?_
              intro x6 hz
              have F9 := Lib.hid (show w10.heap.size ≤ x5.heap.size ∧ _ from ⟨HB.out.size, hz.out.1⟩)
              replace HB := Lib.hid (HB.out.trans (hz.out.2.mono HB.out.size))
              clear hz
              refine hK.out _ _ (HS0.out _ HB.out) (fun _ => ?_)
              clear hK
              try simp only [List.getElem_toArray, List.getElem_cons_succ, List.getElem_cons_zero, Act.put, List.setIfInBounds_toArray, List.set_cons_zero, List.set_cons_succ]
              refine wpAnyH_ready (rs := [11]) (by kernel_rfl) (by simp) (AllReadyH.cons rfl (fun K hK => ?_) AllReadyH.nil)
              refine st_store rfl (.tmp 15) (.tmp 75) rfl _ f2 rfl rfl F9.out.2 F9.out.1 HB.out ?_
              intro x7 hz
              refine hK.out _ _ (HS0.out _ hz.out.2) (fun _ => ?_)
              refine wpAnyH_done (by kernel_rfl) ?_ _
              clear hK
              try simp only [List.getElem_toArray, List.getElem_cons_succ, List.getElem_cons_zero, Act.put, List.setIfInBounds_toArray, List.set_cons_zero, List.set_cons_succ]
              go_wp2_with fail
              go_meet
              case rel => exact ⟨_, rfl, Lib.hid (H10.out.add hz.out.2 (Nat.le_refl _) _ hz.out.1 (DigC.kept _ _))⟩
            · refine st_dig rfl rfl ?_
              intro x5 hz
              have F9 := Lib.hid (show w10.heap.size ≤ x4.heap.size ∧ _ from ⟨HB.out.size, hz.out.1⟩)
              replace F7 := Lib.hid (show _ ∧ _ from ⟨F7.out.1.below hz.out.2 (Nat.le_refl _), F7.out.2⟩)
              replace HB := Lib.hid (HB.out.trans (hz.out.2.mono HB.out.size))
              clear hz
              refine hK.out _ _ (HS0.out _ HB.out) (fun _ => ?_)
              clear hK
              try simp only [List.getElem_toArray, List.getElem_cons_succ, List.getElem_cons_zero, Act.put, List.setIfInBounds_toArray, List.set_cons_zero, List.set_cons_succ]
              refine wpAnyH_ready (rs := [9]) (by kernel_rfl) (by simp) (AllReadyH.cons rfl (fun K hK => ?_) AllReadyH.nil)
              go_simp
              refine (HT0.out _ HB.out p7 c7 F7.out.1 F7.out.2).mono ?_
              rintro e x6 ⟨rfl, hz⟩
              go_wp2_with fail
              replace F7 := Lib.hid (show _ ∧ _ from ⟨F7.out.1.below hz (Nat.le_refl _), F7.out.2⟩)
              replace F9 := Lib.hid (show _ ∧ _ from ⟨F9.out.1, obj_below F9.out.2 hz (Nat.le_refl _)⟩)
              replace HB := Lib.hid (HB.out.trans (hz.mono HB.out.size))
              clear hz
              clear F7
              refine hK.out _ _ (HS0.out _ HB.out) (fun _ => ?_)
              clear hK
              try simp only [List.getElem_toArray, List.getElem_cons_succ, List.getElem_cons_zero, Act.put, List.setIfInBounds_toArray, List.set_cons_zero, List.set_cons_succ]
              refine wpAnyH_ready (rs := [11]) (by kernel_rfl) (by simp) (AllReadyH.cons rfl (fun K hK => ?_) AllReadyH.nil)
              refine st_store rfl (.tmp 15) (.tmp 75) rfl _ f2 rfl rfl F9.out.2 F9.out.1 HB.out ?_
              intro x7 hz
              refine hK.out _ _ (HS0.out _ hz.out.2) (fun _ => ?_)
              refine wpAnyH_done (by kernel_rfl) ?_ _
              clear hK
              try simp only [List.getElem_toArray, List.getElem_cons_succ, List.getElem_cons_zero, Act.put, List.setIfInBounds_toArray, List.set_cons_zero, List.set_cons_succ]
              go_wp2_with fail
              go_meet
              case rel => exact ⟨_, rfl, Lib.hid (H10.out.add hz.out.2 (Nat.le_refl _) _ hz.out.1 (DigC.kept _ _))⟩
          · refine st_dig rfl rfl ?_
            intro x4 hz
            have F9 := Lib.hid (show w10.heap.size ≤ x3.heap.size ∧ _ from ⟨HB.out.size, hz.out.1⟩)
            replace F6 := Lib.hid (F6.out.below hz.out.2 (Nat.le_refl _))
            replace F2 := Lib.hid (owns_below F2.out hz.out.2 (Nat.le_refl _))
            replace HB := Lib.hid (HB.out.trans (hz.out.2.mono HB.out.size))
            clear hz
            refine hK.out _ _ (HS0.out _ HB.out) (fun _ => ?_)
            clear hK
            try simp only [List.getElem_toArray, List.getElem_cons_succ, List.getElem_cons_zero, Act.put, List.setIfInBounds_toArray, List.set_cons_zero, List.set_cons_succ]
            refine wpAnyH_ready (rs := [8]) (by kernel_rfl) (by simp) (AllReadyH.cons rfl (fun K hK => ?_) AllReadyH.nil)
            refine st_app rfl (.tmp 68) (.tmp 73) rfl w10.heap.size v2 32 _ rfl F2.out _ 1 1 (fun _ => b) rfl F6.out (by decide) (by decide) HB.out.size ?_
            intro v7 x5 hz
            have ho := hz.out.1
            rw [bl_cat] at ho
            obtain ⟨p7, c7, rfl, hy7, hc7⟩ := Bytes.own ho (fun i hi => bl_get _ _ i hi) CATL.out
            have F7 := Lib.hid (show _ ∧ _ from ⟨hy7, hc7⟩)
            replace F9 := Lib.hid (show _ ∧ _ from ⟨F9.out.1, hz.out.2.2 _ F9.out.2⟩)
            replace HB := Lib.hid (HB.out.trans hz.out.2.1)
            clear F2 F6 ho hy7 hc7 hz
            refine hK.out _ _ (HS0.out _ HB.out) (fun _ => ?_)
            clear hK
            try simp only [List.getElem_toArray, List.getElem_cons_succ, List.getElem_cons_zero, Act.put, List.setIfInBounds_toArray, List.set_cons_zero, List.set_cons_succ]
            refine wpAnyH_ready (rs := [9]) (by kernel_rfl) (by simp) (AllReadyH.cons rfl (fun K hK => ?_) AllReadyH.nil)
            go_simp
            refine (HT0.out _ HB.out p7 c7 F7.out.1 F7.out.2).mono ?_
            rintro e x6 ⟨rfl, hz⟩
            go_wp2_with fail
            replace F9 := Lib.hid (show _ ∧ _ from ⟨F9.out.1, obj_below F9.out.2 hz (Nat.le_refl _)⟩)
            replace F7 := Lib.hid (show _ ∧ _ from ⟨F7.out.1.below hz (Nat.le_refl _), F7.out.2⟩)
            replace HB := Lib.hid (HB.out.trans (hz.mono HB.out.size))
            clear hz
            clear F7
            refine hK.out _ _ (HS0.out _ HB.out) (fun _ => ?_)
            clear hK
            try simp only [List.getElem_toArray, List.getElem_cons_succ, List.getElem_cons_zero, Act.put, List.setIfInBounds_toArray, List.set_cons_zero, List.set_cons_succ]
            refine wpAnyH_ready (rs := [11]) (by kernel_rfl) (by simp) (AllReadyH.cons rfl (fun K hK => ?_) AllReadyH.nil)
            refine st_store rfl (.tmp 15) (.tmp 75) rfl _ f2 rfl rfl F9.out.2 F9.out.1 HB.out ?_
            intro x7 hz
            refine hK.out _ _ (HS0.out _ hz.out.2) (fun _ => ?_)
            refine wpAnyH_done (by kernel_rfl) ?_ _
            clear hK
            try simp only [List.getElem_toArray, List.getElem_cons_succ, List.getElem_cons_zero, Act.put, List.setIfInBounds_toArray, List.set_cons_zero, List.set_cons_succ]
            go_wp2_with fail
            go_meet
            case rel => exact ⟨_, rfl, Lib.hid (H10.out.add hz.out.2 (Nat.le_refl _) _ hz.out.1 (DigC.kept _ _))⟩
        · refine st_dig rfl rfl ?_
          intro x3 hz
          have F9 := Lib.hid (show w10.heap.size ≤ x2.heap.size ∧ _ from ⟨HB.out.size, hz.out.1⟩)
          replace F6 := Lib.hid (F6.out.below hz.out.2 (Nat.le_refl _))
          replace HB := Lib.hid (HB.out.trans (hz.out.2.mono HB.out.size))
          clear hz
          refine hK.out _ _ (HS0.out _ HB.out) (fun _ => ?_)
          clear hK
          try simp only [List.getElem_toArray, List.getElem_cons_succ, List.getElem_cons_zero, Act.put, List.setIfInBounds_toArray, List.set_cons_zero, List.set_cons_succ]
          refine wpAnyH_ready (rs := [2]) (by kernel_rfl) (by simp) (AllReadyH.cons rfl (fun K hK => ?_) AllReadyH.nil)
          refine st_app0 rfl (.tmp 66) (.tmp 67) rfl _ rfl _ 32 32 k rfl (HK0.out.below HB.out (Nat.le_refl _)) (by decide) (by decide) ?_
          intro v2 x4 hz
          have F2 := Lib.hid (own_le hz.out.1 HB.out.size)
          replace F6 := Lib.hid (F6.out.below hz.out.2 (Nat.le_refl _))
          replace F9 := Lib.hid (show _ ∧ _ from ⟨F9.out.1, obj_below F9.out.2 hz.out.2 (Nat.le_refl _)⟩)
          replace HB := Lib.hid (HB.out.trans (hz.out.2.mono HB.out.size))
          clear hz
          refine hK.out _ _ (HS0.out _ HB.out) (fun _ => ?_)
          clear hK
          try simp only [List.getElem_toArray, List.getElem_cons_succ, List.getElem_cons_zero, Act.put, List.setIfInBounds_toArray, List.set_cons_zero, List.set_cons_succ]
          refine wpAnyH_ready (rs := [8]) (by kernel_rfl) (by simp) (AllReadyH.cons rfl (fun K hK => ?_) AllReadyH.nil)
          refine st_app rfl (.tmp 68) (.tmp 73) rfl w10.heap.size v2 32 _ rfl F2.out _ 1 1 (fun _ => b) rfl F6.out (by decide) (by decide) HB.out.size ?_
          intro v7 x5 hz
          have ho := hz.out.1
          rw [bl_cat] at ho
          obtain ⟨p7, c7, rfl, hy7, hc7⟩ := Bytes.own ho (fun i hi => bl_get _ _ i hi) CATL.out
          have F7 := Lib.hid (show _ ∧ _ from ⟨hy7, hc7⟩)
          replace F9 := Lib.hid (show _ ∧ _ from ⟨F9.out.1, hz.out.2.2 _ F9.out.2⟩)
          replace HB := Lib.hid (HB.out.trans hz.out.2.1)
          clear F2 F6 ho hy7 hc7 hz
          refine hK.out _ _ (HS0.out _ HB.out) (fun _ => ?_)
          clear hK
          try simp only [List.getElem_toArray, List.getElem_cons_succ, List.getElem_cons_zero, Act.put, List.setIfInBounds_toArray, List.set_cons_zero, List.set_cons_succ]
          refine wpAnyH_ready (rs := [9]) (by kernel_rfl) (by simp) (AllReadyH.cons rfl (fun K hK => ?_) AllReadyH.nil)
          go_simp
          refine (HT0.out _ HB.out p7 c7 F7.out.1 F7.out.2).mono ?_
          rintro e x6 ⟨rfl, hz⟩
          go_wp2_with fail
          replace F9 := Lib.hid (show _ ∧ _ from ⟨F9.out.1, obj_below F9.out.2 hz (Nat.le_refl _)⟩)
          replace F7 := Lib.hid (show _ ∧ _ from ⟨F7.out.1.below hz (Nat.le_refl _), F7.out.2⟩)
          replace HB := Lib.hid (HB.out.trans (hz.mono HB.out.size))
          clear hz
          clear F7
          refine hK.out _ _ (HS0.out _ HB.out) (fun _ => ?_)
          clear hK
          try simp only [List.getElem_toArray, List.getElem_cons_succ, List.getElem_cons_zero, Act.put, List.setIfInBounds_toArray, List.set_cons_zero, List.set_cons_succ]
          refine wpAnyH_ready (rs := [11]) (by kernel_rfl) (by simp) (AllReadyH.cons rfl (fun K hK => ?_) AllReadyH.nil)
          refine st_store rfl (.tmp 15) (.tmp 75) rfl _ f2 rfl rfl F9.out.2 F9.out.1 HB.out ?_
          intro x7 hz
          refine hK.out _ _ (HS0.out _ hz.out.2) (fun _ => ?_)
          refine wpAnyH_done (by kernel_rfl) ?_ _
          clear hK
          try simp only [List.getElem_toArray, List.getElem_cons_succ, List.getElem_cons_zero, Act.put, List.setIfInBounds_toArray, List.set_cons_zero, List.set_cons_succ]
          go_wp2_with fail
          go_meet
          case rel => exact ⟨_, rfl, Lib.hid (H10.out.add hz.out.2 (Nat.le_refl _) _ hz.out.1 (DigC.kept _ _))⟩
      · refine st_dig rfl rfl ?_
        intro x2 hz
        have F9 := Lib.hid (show w10.heap.size ≤ x1.heap.size ∧ _ from ⟨HB.out.size, hz.out.1⟩)
        replace F6 := Lib.hid (F6.out.below hz.out.2 (Nat.le_refl _))
        replace HB := Lib.hid (HB.out.trans (hz.out.2.mono HB.out.size))
        clear hz
        refine hK.out _ _ (HS0.out _ HB.out) (fun _ => ?_)
        clear hK
        try simp only [List.getElem_toArray, List.getElem_cons_succ, List.getElem_cons_zero, Act.put, List.setIfInBounds_toArray, List.set_cons_zero, List.set_cons_succ]
        refine wpAnyH_ready (rs := [0]) (by kernel_rfl) (by simp) (AllReadyH.cons rfl (fun K hK => ?_) AllReadyH.nil)
        refine st_new0 rfl rfl ?_
        intro x3 hz
        replace F6 := Lib.hid (F6.out.below hz.out.2 (Nat.le_refl _))
        replace F9 := Lib.hid (show _ ∧ _ from ⟨F9.out.1, obj_below F9.out.2 hz.out.2 (Nat.le_refl _)⟩)
        replace HB := Lib.hid (HB.out.trans (hz.out.2.mono HB.out.size))
        clear hz
        refine hK.out _ _ (HS0.out _ HB.out) (fun _ => ?_)
        clear hK
        try simp only [List.getElem_toArray, List.getElem_cons_succ, List.getElem_cons_zero, Act.put, List.setIfInBounds_toArray, List.set_cons_zero, List.set_cons_succ]
        refine wpAnyH_ready (rs := [2]) (by kernel_rfl) (by simp) (AllReadyH.cons rfl (fun K hK => ?_) AllReadyH.nil)
        refine st_app0 rfl (.tmp 66) (.tmp 67) rfl _ rfl _ 32 32 k rfl (HK0.out.below HB.out (Nat.le_refl _)) (by decide) (by decide) ?_
        intro v2 x4 hz
        have F2 := Lib.hid (own_le hz.out.1 HB.out.size)
        replace F6 := Lib.hid (F6.out.below hz.out.2 (Nat.le_refl _))
        replace F9 := Lib.hid (show _ ∧ _ from ⟨F9.out.1, obj_below F9.out.2 hz.out.2 (Nat.le_refl _)⟩)
        replace HB := Lib.hid (HB.out.trans (hz.out.2.mono HB.out.size))
        clear hz
        refine hK.out _ _ (HS0.out _ HB.out) (fun _ => ?_)
        clear hK
        try simp only [List.getElem_toArray, List.getElem_cons_succ, List.getElem_cons_zero, Act.put, List.setIfInBounds_toArray, List.set_cons_zero, List.set_cons_succ]
        refine wpAnyH_ready (rs := [8]) (by kernel_rfl) (by simp) (AllReadyH.cons rfl (fun K hK => ?_) AllReadyH.nil)
        refine st_app rfl (.tmp 68) (.tmp 73) rfl w10.heap.size v2 32 _ rfl F2.out _ 1 1 (fun _ => b) rfl F6.out (by decide) (by decide) HB.out.size ?_
        intro v7 x5 hz
        have ho := hz.out.1
        rw [bl_cat] at ho
        obtain ⟨p7, c7, rfl, hy7, hc7⟩ := Bytes.own ho (fun i hi => bl_get _ _ i hi) CATL.out
        have F7 := Lib.hid (show _ ∧ _ from ⟨hy7, hc7⟩)
        replace F9 := Lib.hid (show _ ∧ _ from ⟨F9.out.1, hz.out.2.2 _ F9.out.2⟩)
        replace HB := Lib.hid (HB.out.trans hz.out.2.1)
        clear F2 F6 ho hy7 hc7 hz
        refine hK.out _ _ (HS0.out _ HB.out) (fun _ => ?_)
        clear hK
        try simp only [List.getElem_toArray, List.getElem_cons_succ, List.getElem_cons_zero, Act.put, List.setIfInBounds_toArray, List.set_cons_zero, List.set_cons_succ]
        refine wpAnyH_ready (rs := [9]) (by kernel_rfl) (by simp) (AllReadyH.cons rfl (fun K hK => ?_) AllReadyH.nil)
        go_simp
        refine (HT0.out _ HB.out p7 c7 F7.out.1 F7.out.2).mono ?_
        rintro e x6 ⟨rfl, hz⟩
        go_wp2_with fail
        replace F9 := Lib.hid (show _ ∧ _ from ⟨F9.out.1, obj_below F9.out.2 hz (Nat.le_refl _)⟩)
        replace F7 := Lib.hid (show _ ∧ _ from ⟨F7.out.1.below hz (Nat.le_refl _), F7.out.2⟩)
        replace HB := Lib.hid (HB.out.trans (hz.mono HB.out.size))
        clear hz
        clear F7
        refine hK.out _ _ (HS0.out _ HB.out) (fun _ => ?_)
        clear hK
        try simp only [List.getElem_toArray, List.getElem_cons_succ, List.getElem_cons_zero, Act.put, List.setIfInBounds_toArray, List.set_cons_zero, List.set_cons_succ]
        refine wpAnyH_ready (rs := [11]) (by kernel_rfl) (by simp) (AllReadyH.cons rfl (fun K hK => ?_) AllReadyH.nil)
        refine st_store rfl (.tmp 15) (.tmp 75) rfl _ f2 rfl rfl F9.out.2 F9.out.1 HB.out ?_
        intro x7 hz
        refine hK.out _ _ (HS0.out _ hz.out.2) (fun _ => ?_)
        refine wpAnyH_done (by kernel_rfl) ?_ _
        clear hK
        try simp only [List.getElem_toArray, List.getElem_cons_succ, List.getElem_cons_zero, Act.put, List.setIfInBounds_toArray, List.set_cons_zero, List.set_cons_succ]
        go_wp2_with fail
        go_meet
        case rel => exact ⟨_, rfl, Lib.hid (H10.out.add hz.out.2 (Nat.le_refl _) _ hz.out.1 (DigC.kept _ _))⟩
    · refine st_dig rfl rfl ?_
      intro x1 hz
      have F9 := Lib.hid (show w10.heap.size ≤ x0.heap.size ∧ _ from ⟨HB.out.size, hz.out.1⟩)
      replace HB := Lib.hid (HB.out.trans (hz.out.2.mono HB.out.size))
      clear hz
      refine hK.out _ _ (HS0.out _ HB.out) (fun _ => ?_)
      clear hK
      try simp only [List.getElem_toArray, List.getElem_cons_succ, List.getElem_cons_zero, Act.put, List.setIfInBounds_toArray, List.set_cons_zero, List.set_cons_succ]
      refine wpAnyH_ready (rs := [0, 7]) (by kernel_rfl) (by simp) (AllReadyH.cons rfl (fun K hK => ?_) (AllReadyH.cons rfl (fun K hK => ?_) AllReadyH.nil))
      · refine st_new0 rfl rfl ?_
        intro x2 hz
        replace F9 := Lib.hid (show _ ∧ _ from ⟨F9.out.1, obj_below F9.out.2 hz.out.2 (Nat.le_refl _)⟩)
        replace HB := Lib.hid (HB.out.trans (hz.out.2.mono HB.out.size))
        clear hz
        refine hK.out _ _ (HS0.out _ HB.out) (fun _ => ?_)
        clear hK
        try simp only [List.getElem_toArray, List.getElem_cons_succ, List.getElem_cons_zero, Act.put, List.setIfInBounds_toArray, List.set_cons_zero, List.set_cons_succ]
        refine wpAnyH_ready (rs := [2, 7]) (by kernel_rfl) (by simp) (AllReadyH.cons rfl (fun K hK => ?_) (AllReadyH.cons rfl (fun K hK => ?_) AllReadyH.nil))
        · refine st_app0 rfl (.tmp 66) (.tmp 67) rfl _ rfl _ 32 32 k rfl (HK0.out.below HB.out (Nat.le_refl _)) (by decide) (by decide) ?_
          intro v2 x3 hz
          have F2 := Lib.hid (own_le hz.out.1 HB.out.size)
          replace F9 := Lib.hid (show _ ∧ _ from ⟨F9.out.1, obj_below F9.out.2 hz.out.2 (Nat.le_refl _)⟩)
          replace HB := Lib.hid (HB.out.trans (hz.out.2.mono HB.out.size))
          clear hz
          refine hK.out _ _ (HS0.out _ HB.out) (fun _ => ?_)
          clear hK
          try simp only [List.getElem_toArray, List.getElem_cons_succ, List.getElem_cons_zero, Act.put, List.setIfInBounds_toArray, List.set_cons_zero, List.set_cons_succ]
          refine wpAnyH_ready (rs := [7]) (by kernel_rfl) (by simp) (AllReadyH.cons rfl (fun K hK => ?_) AllReadyH.nil)
          refine st_new1 rfl (.tmp 72) rfl b HBN.out rfl ?_
          intro x4 hz
          have F6 := Lib.hid hz.out.1
          replace F9 := Lib.hid (show _ ∧ _ from ⟨F9.out.1, obj_below F9.out.2 hz.out.2 (Nat.le_refl _)⟩)
          replace F2 := Lib.hid (owns_below F2.out hz.out.2 (Nat.le_refl _))
          replace HB := Lib.hid (HB.out.trans (hz.out.2.mono HB.out.size))
          clear hz
          refine hK.out _ _ (HS0.out _ HB.out) (fun _ => ?_)
          clear hK
          try simp only [List.getElem_toArray, List.getElem_cons_succ, List.getElem_cons_zero, Act.put, List.setIfInBounds_toArray, List.set_cons_zero, List.set_cons_succ]
          refine wpAnyH_ready (rs := [8]) (by kernel_rfl) (by simp) (AllReadyH.cons rfl (fun K hK => ?_) AllReadyH.nil)
          refine st_app rfl (.tmp 68) (.tmp 73) rfl w10.heap.size v2 32 _ rfl F2.out _ 1 1 (fun _ => b) rfl F6.out (by decide) (by decide) HB.out.size ?_
          intro v7 x5 hz
          have ho := hz.out.1
          rw [bl_cat] at ho
          obtain ⟨p7, c7, rfl, hy7, hc7⟩ := Bytes.own ho (fun i hi => bl_get _ _ i hi) CATL.out
          have F7 := Lib.hid (show _ ∧ _ from ⟨hy7, hc7⟩)
          replace F9 := Lib.hid (show _ ∧ _ from ⟨F9.out.1, hz.out.2.2 _ F9.out.2⟩)
          replace HB := Lib.hid (HB.out.trans hz.out.2.1)
          clear F2 F6 ho hy7 hc7 hz
          refine hK.out _ _ (HS0.out _ HB.out) (fun _ => ?_)
          clear hK
          try simp only [List.getElem_toArray, List.getElem_cons_succ, List.getElem_cons_zero, Act.put, List.setIfInBounds_toArray, List.set_cons_zero, List.set_cons_succ]
          refine wpAnyH_ready (rs := [9]) (by kernel_rfl) (by simp) (AllReadyH.cons rfl (fun K hK => ?_) AllReadyH.nil)
          go_simp
          refine (HT0.out _ HB.out p7 c7 F7.out.1 F7.out.2).mono ?_
          rintro e x6 ⟨rfl, hz⟩
          go_wp2_with fail
          replace F9 := Lib.hid (show _ ∧ _ from ⟨F9.out.1, obj_below F9.out.2 hz (Nat.le_refl _)⟩)
          replace F7 := Lib.hid (show _ ∧ _ from ⟨F7.out.1.below hz (Nat.le_refl _), F7.out.2⟩)
          replace HB := Lib.hid (HB.out.trans (hz.mono HB.out.size))
          clear hz
          clear F7
          refine hK.out _ _ (HS0.out _ HB.out) (fun _ => ?_)
          clear hK
          try simp only [List.getElem_toArray, List.getElem_cons_succ, List.getElem_cons_zero, Act.put, List.setIfInBounds_toArray, List.set_cons_zero, List.set_cons_succ]
          refine wpAnyH_ready (rs := [11]) (by kernel_rfl) (by simp) (AllReadyH.cons rfl (fun K hK => ?_) AllReadyH.nil)
          refine st_store rfl (.tmp 15) (.tmp 75) rfl _ f2 rfl rfl F9.out.2 F9.out.1 HB.out ?_
          intro x7 hz
          refine hK.out _ _ (HS0.out _ hz.out.2) (fun _ => ?_)
          refine wpAnyH_done (by kernel_rfl) ?_ _
          clear hK
          try simp only [List.getElem_toArray, List.getElem_cons_succ, List.getElem_cons_zero, Act.put, List.setIfInBounds_toArray, List.set_cons_zero, List.set_cons_succ]
          go_wp2_with fail
          go_meet
          case rel => exact ⟨_, rfl, Lib.hid (H10.out.add hz.out.2 (Nat.le_refl _) _ hz.out.1 (DigC.kept _ _))⟩
        · refine st_new1 rfl (.tmp 72) rfl b HBN.out rfl ?_
          intro x3 hz
          have F6 := Lib.hid hz.out.1
          replace F9 := Lib.hid (show _ ∧ _ from ⟨F9.out.1, obj_below F9.out.2 hz.out.2 (Nat.le_refl _)⟩)
          replace HB := Lib.hid (HB.out.trans (hz.out.2.mono HB.out.size))
          clear hz
          refine hK.out _ _ (HS0.out _ HB.out) (fun _ => ?_)
          clear hK
          try simp only [List.getElem_toArray, List.getElem_cons_succ, List.getElem_cons_zero, Act.put, List.setIfInBounds_toArray, List.set_cons_zero, List.set_cons_succ]
          refine wpAnyH_ready (rs := [2]) (by kernel_rfl) (by simp) (AllReadyH.cons rfl (fun K hK => ?_) AllReadyH.nil)
          refine st_app0 rfl (.tmp 66) (.tmp 67) rfl _ rfl _ 32 32 k rfl (HK0.out.below HB.out (Nat.le_refl _)) (by decide) (by decide) ?_
          intro v2 x4 hz
          have F2 := Lib.hid (own_le hz.out.1 HB.out.size)
          replace F9 := Lib.hid (show _ ∧ _ from ⟨F9.out.1, obj_below F9.out.2 hz.out.2 (Nat.le_refl _)⟩)
          replace F6 := Lib.hid (F6.out.below hz.out.2 (Nat.le_refl _))
          replace HB := Lib.hid (HB.out.trans (hz.out.2.mono HB.out.size))
          clear hz
          refine hK.out _ _ (HS0.out _ HB.out) (fun _ => ?_)
          clear hK
          try simp only [List.getElem_toArray, List.getElem_cons_succ, List.getElem_cons_zero, Act.put, List.setIfInBounds_toArray, List.set_cons_zero, List.set_cons_succ]
          refine wpAnyH_ready (rs := [8]) (by kernel_rfl) (by simp) (AllReadyH.cons rfl (fun K hK => ?_) AllReadyH.nil)
          refine st_app rfl (.tmp 68) (.tmp 73) rfl w10.heap.size v2 32 _ rfl F2.out _ 1 1 (fun _ => b) rfl F6.out (by decide) (by decide) HB.out.size ?_
          intro v7 x5 hz
          have ho := hz.out.1
          rw [bl_cat] at ho
          obtain ⟨p7, c7, rfl, hy7, hc7⟩ := Bytes.own ho (fun i hi => bl_get _ _ i hi) CATL.out
          have F7 := Lib.hid (show _ ∧ _ from ⟨hy7, hc7⟩)
          replace F9 := Lib.hid (show _ ∧ _ from ⟨F9.out.1, hz.out.2.2 _ F9.out.2⟩)
          replace HB := Lib.hid (HB.out.trans hz.out.2.1)
          clear F2 F6 ho hy7 hc7 hz
          refine hK.out _ _ (HS0.out _ HB.out) (fun _ => ?_)
          clear hK
          try simp only [List.getElem_toArray, List.getElem_cons_succ, List.getElem_cons_zero, Act.put, List.setIfInBounds_toArray, List.set_cons_zero, List.set_cons_succ]
          refine wpAnyH_ready (rs := [9]) (by kernel_rfl) (by simp) (AllReadyH.cons rfl (fun K hK => ?_) AllReadyH.nil)
          go_simp
          refine (HT0.out _ HB.out p7 c7 F7.out.1 F7.out.2).mono ?_
          rintro e x6 ⟨rfl, hz⟩
          go_wp2_with fail
          replace F9 := Lib.hid (show _ ∧ _ from ⟨F9.out.1, obj_below F9.out.2 hz (Nat.le_refl _)⟩)
          replace F7 := Lib.hid (show _ ∧ _ from ⟨F7.out.1.below hz (Nat.le_refl _), F7.out.2⟩)
          replace HB := Lib.hid (HB.out.trans (hz.mono HB.out.size))
          clear hz
          clear F7
          refine hK.out _ _ (HS0.out _ HB.out) (fun _ => ?_)
          clear hK
          try simp only [List.getElem_toArray, List.getElem_cons_succ, List.getElem_cons_zero, Act.put, List.setIfInBounds_toArray, List.set_cons_zero, List.set_cons_succ]
          refine wpAnyH_ready (rs := [11]) (by kernel_rfl) (by simp) (AllReadyH.cons rfl (fun K hK => ?_) AllReadyH.nil)
          refine st_store rfl (.tmp 15) (.tmp 75) rfl _ f2 rfl rfl F9.out.2 F9.out.1 HB.out ?_
          intro x7 hz
          refine hK.out _ _ (HS0.out _ hz.out.2) (fun _ => ?_)
          refine wpAnyH_done (by kernel_rfl) ?_ _
          clear hK
          try simp only [List.getElem_toArray, List.getElem_cons_succ, List.getElem_cons_zero, Act.put, List.setIfInBounds_toArray, List.set_cons_zero, List.set_cons_succ]
          go_wp2_with fail
          go_meet
          case rel => exact ⟨_, rfl, Lib.hid (H10.out.add hz.out.2 (Nat.le_refl _) _ hz.out.1 (DigC.kept _ _))⟩
      · refine st_new1 rfl (.tmp 72) rfl b HBN.out rfl ?_
        intro x2 hz
        have F6 := Lib.hid hz.out.1
        replace F9 := Lib.hid (show _ ∧ _ from ⟨F9.out.1, obj_below F9.out.2 hz.out.2 (Nat.le_refl _)⟩)
        replace HB := Lib.hid (HB.out.trans (hz.out.2.mono HB.out.size))
        clear hz
        refine hK.out _ _ (HS0.out _ HB.out) (fun _ => ?_)
        clear hK
        try simp only [List.getElem_toArray, List.getElem_cons_succ, List.getElem_cons_zero, Act.put, List.setIfInBounds_toArray, List.set_cons_zero, List.set_cons_succ]
        refine wpAnyH_ready (rs := [0]) (by kernel_rfl) (by simp) (AllReadyH.cons rfl (fun K hK => ?_) AllReadyH.nil)
        refine st_new0 rfl rfl ?_
        intro x3 hz
        replace F9 := Lib.hid (show _ ∧ _ from ⟨F9.out.1, obj_below F9.out.2 hz.out.2 (Nat.le_refl _)⟩)
        replace F6 := Lib.hid (F6.out.below hz.out.2 (Nat.le_refl _))
        replace HB := Lib.hid (HB.out.trans (hz.out.2.mono HB.out.size))
        clear hz
        refine hK.out _ _ (HS0.out _ HB.out) (fun _ => ?_)
        clear hK
        try simp only [List.getElem_toArray, List.getElem_cons_succ, List.getElem_cons_zero, Act.put, List.setIfInBounds_toArray, List.set_cons_zero, List.set_cons_succ]
        refine wpAnyH_ready (rs := [2]) (by kernel_rfl) (by simp) (AllReadyH.cons rfl (fun K hK => ?_) AllReadyH.nil)
        refine st_app0 rfl (.tmp 66) (.tmp 67) rfl _ rfl _ 32 32 k rfl (HK0.out.below HB.out (Nat.le_refl _)) (by decide) (by decide) ?_
        intro v2 x4 hz
        have F2 := Lib.hid (own_le hz.out.1 HB.out.size)
        replace F9 := Lib.hid (show _ ∧ _ from ⟨F9.out.1, obj_below F9.out.2 hz.out.2 (Nat.le_refl _)⟩)
        replace F6 := Lib.hid (F6.out.below hz.out.2 (Nat.le_refl _))
        replace HB := Lib.hid (HB.out.trans (hz.out.2.mono HB.out.size))
        clear hz
        refine hK.out _ _ (HS0.out _ HB.out) (fun _ => ?_)
        clear hK
        try simp only [List.getElem_toArray, List.getElem_cons_succ, List.getElem_cons_zero, Act.put, List.setIfInBounds_toArray, List.set_cons_zero, List.set_cons_succ]
        refine wpAnyH_ready (rs := [8]) (by kernel_rfl) (by simp) (AllReadyH.cons rfl (fun K hK => ?_) AllReadyH.nil)
        refine st_app rfl (.tmp 68) (.tmp 73) rfl w10.heap.size v2 32 _ rfl F2.out _ 1 1 (fun _ => b) rfl F6.out (by decide) (by decide) HB.out.size ?_
        intro v7 x5 hz
        have ho := hz.out.1
        rw [bl_cat] at ho
        obtain ⟨p7, c7, rfl, hy7, hc7⟩ := Bytes.own ho (fun i hi => bl_get _ _ i hi) CATL.out
        have F7 := Lib.hid (show _ ∧ _ from ⟨hy7, hc7⟩)
        replace F9 := Lib.hid (show _ ∧ _ from ⟨F9.out.1, hz.out.2.2 _ F9.out.2⟩)
        replace HB := Lib.hid (HB.out.trans hz.out.2.1)
        clear F2 F6 ho hy7 hc7 hz
        refine hK.out _ _ (HS0.out _ HB.out) (fun _ => ?_)
        clear hK
        try simp only [List.getElem_toArray, List.getElem_cons_succ, List.getElem_cons_zero, Act.put, List.setIfInBounds_toArray, List.set_cons_zero, List.set_cons_succ]
        refine wpAnyH_ready (rs := [9]) (by kernel_rfl) (by simp) (AllReadyH.cons rfl (fun K hK => ?_) AllReadyH.nil)
        go_simp
        refine (HT0.out _ HB.out p7 c7 F7.out.1 F7.out.2).mono ?_
        rintro e x6 ⟨rfl, hz⟩
        go_wp2_with fail
        replace F9 := Lib.hid (show _ ∧ _ from ⟨F9.out.1, obj_below F9.out.2 hz (Nat.le_refl _)⟩)
        replace F7 := Lib.hid (show _ ∧ _ from ⟨F7.out.1.below hz (Nat.le_refl _), F7.out.2⟩)
        replace HB := Lib.hid (HB.out.trans (hz.mono HB.out.size))
        clear hz
        clear F7
        refine hK.out _ _ (HS0.out _ HB.out) (fun _ => ?_)
        clear hK
        try simp only [List.getElem_toArray, List.getElem_cons_succ, List.getElem_cons_zero, Act.put, List.setIfInBounds_toArray, List.set_cons_zero, List.set_cons_succ]
        refine wpAnyH_ready (rs := [11]) (by kernel_rfl) (by simp) (AllReadyH.cons rfl (fun K hK => ?_) AllReadyH.nil)
        refine st_store rfl (.tmp 15) (.tmp 75) rfl _ f2 rfl rfl F9.out.2 F9.out.1 HB.out ?_
        intro x7 hz
        refine hK.out _ _ (HS0.out _ hz.out.2) (fun _ => ?_)
        refine wpAnyH_done (by kernel_rfl) ?_ _
        clear hK
        try simp only [List.getElem_toArray, List.getElem_cons_succ, List.getElem_cons_zero, Act.put, List.setIfInBounds_toArray, List.set_cons_zero, List.set_cons_succ]
        go_wp2_with fail
        go_meet
        case rel => exact ⟨_, rfl, Lib.hid (H10.out.add hz.out.2 (Nat.le_refl _) _ hz.out.1 (DigC.kept _ _))⟩
  case rest =>
    generalize wc = w11 at *
    obtain ⟨B11, rfl, H11⟩ := hcut
    clear H10 T1
    have hs_s := H11.out.side (.tail _ (.tail _ (.tail _ (.tail _ (.tail _ (.tail _ (.head _)))))))
    clear hs_s
    go_wp2_with first | (refine wpList_loadD rfl (.tmp 5) rfl _ _ (H11.out.dig (.tail _ (.tail _ (.tail _ (.tail _ (.tail _ (.head _))))))) rfl ?_) | (refine wpList_loadD rfl (.tmp 13) rfl _ _ (H11.out.dig (.tail _ (.head _))) rfl ?_) | (refine wpList_loadD rfl (.tmp 15) rfl _ _ (H11.out.dig (.head _)) rfl ?_) | (refine wpList_new3 rfl 76 77 78 rfl g f1 f2 rfl rfl rfl ?_; intro w12 hu2)
    have H12 := Lib.hid (H11.out.add hu2.out.2 (Nat.le_refl _) _ hu2.out.1 (ThreeC.kept _ _ _ _))
    clear hu2 H11
    generalize w11.heap.size = B12 at *
    go_loopg [81] 3 (fun m s81 wr => ∃ i : Nat, s81 = .int .i64 i ∧ Hid (i + m = 3) ∧ Hid (Hold w (ThreeC B12 g f1 f2 :: DigC B11 f2 :: [DigC B10 f1, DigC B8 f1, DigC B6 k, DigC B4 k, DigC (w.heap.size + 1) g, SideC w.heap.size r c x]) wr))
    case atStart => exact ⟨0, rfl, Lib.hid rfl, H12⟩
    case round =>
      obtain ⟨i, rfl, hi, H13⟩ := hrel
      by_cases h3 : i < 3
      · have t1 : decide ((i : Int) < 3) = true := by rw [decide_eq_true_eq]; omega
        have b1 : (i : Int) < 3 := by omega
        have hix := fun W => run_ix B12 W i h3
        have HI3 := Lib.hid h3
        clear h3
        go_upto_region 13 with first
          | (refine wpList_load3 rfl (.tmp 83) rfl B12 i HI3.out g f1 f2 (H13.out.three (.head _)) rfl ?_)
          | (refine wpList_alloc32 rfl rfl ?_; intro u1 hu1)
          | (refine wpList_storeD rfl (.tmp 17) (.tmp 84) rfl _ (sel3 g f1 f2 i) hu1.out.1 hu1.out.2.1 rfl rfl ?_; intro wq hu2)
        have H14 := Lib.hid (H13.out.addDig hu2.out.1 hu2.out.2)
        clear hu1 hu2 hix H13
        have hs_s := H14.out.side (.tail _ (.tail _ (.tail _ (.tail _ (.tail _ (.tail _ (.tail _ (.tail _ (.head _)))))))))
        go_wp2_with first | (refine wpList_loadD rfl (.tmp 17) rfl _ _ (H14.out.dig (.head _)) rfl ?_)
        refine (A1.out _ H14.out.below (sel3 g f1 f2 i) (sel3_lt HG.out l1.out l2.out i)).mono ?_
        rintro e wr1 ⟨rfl, hb1⟩
        have H15 := Lib.hid (H14.out.next hb1 (Nat.le_refl _))
        clear hs_s
        clear hb1 H14
        have hs_s := H15.out.side (.tail _ (.tail _ (.tail _ (.tail _ (.tail _ (.tail _ (.tail _ (.tail _ (.head _)))))))))
        go_wp2_with first | (refine wpList_loadD rfl (.tmp 17) rfl _ _ (H15.out.dig (.head _)) rfl ?_)
        refine (A2.out _ (sel3 g f1 f2 i) (sel3_lt HG.out l1.out l2.out i)).mono ?_
        rintro e wr2 ⟨rfl, hb1⟩
        have H16 := Lib.hid (H15.out.next hb1 (Nat.le_refl _))
        clear hs_s
        clear hb1 H15
        have hs_s := H16.out.side (.tail _ (.tail _ (.tail _ (.tail _ (.tail _ (.tail _ (.tail _ (.tail _ (.head _)))))))))
        clear hs_s
        generalize mf (sel3 g f1 f2 i) = mb at *
        go_wp2_with fail
        go_roundg (3 - (i + 1))
        case rel => exact ⟨i + 1, by go_num, Lib.hid (by have := HI3.out; omega), Lib.hid H16.out.tail⟩
        case measure => have := hi.out; have := HI3.out; omega
      · obtain rfl : i = 3 := by have := hi.out; omega
        have t1 : decide (((3 : Nat) : Int) < 3) = false := by decide
        clear h3
        go_wp2_with fail
        go_ret
        exact ⟨rfl, H13.out.below⟩

theorem pakeSharedSpec_any (r c x peer : Int) (g : Nat → Nat) (hg : ∀ i, i < 32 → g i < 256) (w : World) (hT : Tabs w) :
    Calls Tryd.prog 8 #[.agg #[.int .i64 r, .int .i64 c, .int .i64 x], .int .i64 peer, d32 g] w fun e w' => e = .returned (.bool true) ∧ Below w.heap.size w w' := by
  have z32 : ∀ i, i < 32 → (fun _ => 0 : Nat → Nat) i < 256 := fun _ _ => Nat.zero_lt_succ _
  by_cases hbad : (okSide r c x && Gp.isEl peer) = false
  · exact ss_gen r c x peer 100 g (fun _ => 0) (fun _ => 0) (fun _ => false) hg z32 z32 w hT (fun W hb => pshared_bad r c x peer hbad W (hT.below hb)) (fun W => r10_shared_bad r c x peer hbad W)
      (fun W hb => pproved_bad r c x peer hbad W (hT.below hb)) (fun W => r10_proved_bad r c x peer hbad W) (fun W hb d _ => paccept_bad r c x peer d hbad W (hT.below hb)) (fun W d _ => r10_accept_bad r c x peer d hbad W)
  · have hok : (okSide r c x && Gp.isEl peer) = true := by
      cases hq : (okSide r c x && Gp.isEl peer) with
      | false => exact absurd hq hbad
      | true => rfl
    rw [Bool.and_eq_true] at hok
    obtain ⟨a, b, d, rfl, rfl, rfl, h1, h2, h3, h4⟩ := ok_nat hok.1
    obtain ⟨n, rfl, _⟩ := Gp.isEl_nat hok.2
    have hp := Gp.El.of hok.2
    exact ss_gen a b d n 0 g (keyOf a b d n) (prOf (keyOf a b d n) a) (fun q => eqB q (prOf (keyOf a b d n) (3 - a))) hg (key_lt a b d n) (pr_lt _ _) w hT
      (fun W hb => pshared_ok a b d h1 h2 h3 h4 n hp W (hT.below hb)) (fun W => r10_shared_ok a b d h1 h2 h3 h4 n hp W)
      (fun W hb => pproved_ok a b d h1 h2 h3 h4 n hp W (hT.below hb)) (fun W => r10_proved_ok a b d h1 h2 h3 h4 n hp W)
      (fun W hb q hq => paccept_ok a b d h1 h2 h3 h4 n hp q hq W (hT.below hb)) (fun W q hq => r10_accept_ok a b d h1 h2 h3 h4 n hp q hq W)
end Go.Proofs.YtelikpkekloffaaDoor
