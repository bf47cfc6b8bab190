/- The reference's hash function under a tag, walked. -/
import Derived.Test.YtelikpkekloffaaDoorRefS
namespace Go.Proofs.YtelikpkekloffaaDoor
open Go.RowKit

set_option maxRecDepth 100000 in
/-- digest.Tagged. -/
theorem rtagged_any (tag : ByteArray) (p : Option Addr) (n cap : Nat) (f : Nat → Nat) (w : World) (hb : Bytes w p n cap f) (hn : n ≤ 4000) (htag : tag.size ≤ 4096) :
    Calls Tryd.prog 68 #[.string tag, .slice p n cap] w fun e w' => e = .returned (d32 (Sha.tagged tag.size (sb tag) n f)) ∧ Below w.heap.size w w' := by
  have HB := Lib.hid hb
  have HN := Lib.hid hn
  have HTG := Lib.hid htag
  clear hb hn htag
  obtain ⟨D, hD⟩ : ∃ D, D = w.heap.size := ⟨_, rfl⟩
  have HD := Lib.hid hD
  clear hD
  go_enter Tryd.func68, Tryd.ntmps68
  go_upto_region 1 with (refine wpList_alloc32 rfl rfl ?_; intro w1 hw1)
  have hR1 := hw1.out.1
  have hs1 := hw1.out.2.2
  have hB1 := Lib.hid hw1.out.2.1
  rw [← HD.out] at hR1 hs1
  replace hR1 := Lib.hid hR1
  replace hs1 := Lib.hid hs1
  rw [← HD.out]
  clear hw1
  have hW1 : w.heap.size ≤ w1.heap.size := hB1.out.size
  replace hW1 := Lib.hid hW1
  go_wp2_with (refine wpList_conv rfl (.tmp 6) rfl tag rfl (by have := HTG.out; omega) ?_; intro ct w2 hw2)
  have HS := Lib.hid (refSum_any _ tag.size ct (sb tag) w2 hw2.out.1 HTG.out)
  have hB2 := Lib.hid (hB1.out.trans (hw2.out.2.1.mono hW1.out))
  have hR2 := Lib.hid (hR1.out.below hw2.out.2.1 (by have := hs1.out; omega))
  have hs2 : Hid (D + 1 ≤ w2.heap.size) := Lib.hid (by have := hs1.out; have := hw2.out.2.1.size; omega)
  clear hw2
  refine HS.out.mono ?_
  rintro e w3 ⟨rfl, hb3⟩
  have hB3 := Lib.hid (hB2.out.trans (hb3.mono hB2.out.size))
  have hR3 := Lib.hid (hR2.out.below hb3 (by have := hs2.out; omega))
  have hs3 : Hid (D + 1 ≤ w3.heap.size) := Lib.hid (by have := hs2.out; have := hb3.size; omega)
  clear hb3 HS hB2 hR2 hs2 hB1 hR1 hs1
  obtain ⟨g, hg⟩ : ∃ g, g = Sha.sum tag.size (sb tag) := ⟨_, rfl⟩
  have HG := Lib.hid hg
  rw [show d32 (Sha.sum tag.size (sb tag)) = Value.agg (c32 g).toArray by rw [hg]; rfl]
  clear hg
  go_upto_region 2 with first
    | (refine wpList_alloc32 rfl rfl ?_; intro w4 hw4)
    | (refine wpList_store_mid rfl 44 (.tmp 5) (.tmp 8) rfl w3.heap.size 0 (c32 g).toArray rfl rfl (by rw [c32_size]; exact there32 hw4.out.1) (by rw [c32_size]; exact info32) (c32_one _) ?_)
  have hTr := hw4.out.1.store (g := g)
  have hB5 := below_cells (b := w3.heap.size) (Nat.le_refl _) (c32 g) 0 _ hw4.out.2.1
  have hs5 : w3.heap.size < (w4.setCells w3.heap.size 0 (c32 g)).heap.size := by
    have := (below_cells (b := w3.heap.size) (Nat.le_refl _) (c32 g) 0 _ (Below.refl w3.heap.size w4)).size
    have := hw4.out.2.2
    omega
  replace hTr := Lib.hid hTr
  replace hB5 := Lib.hid hB5
  replace hs5 := Lib.hid hs5
  clear hw4
  generalize w4.setCells w3.heap.size 0 (c32 g) = w5 at *
  have hB6 := Lib.hid (hB3.out.trans (hB5.out.mono (by have := hs3.out; have := HD.out; omega)))
  have hR6 := Lib.hid (hR3.out.below hB5.out (by have := hs3.out; omega))
  have hDT : Hid (D < w3.heap.size) := hs3
  clear hB3 hR3 hB5 hW1 hs3
  generalize w3.heap.size = T at *
  have hsl : ∀ W : World, Sem.run Tryd.prog (Instr.sliceAt 44 (.pointer (some ⟨T, 0, none⟩)) none none none) W = .ok (.slice (some ⟨T, 0, none⟩) 32 32) W := fun W => by kernel_rfl
  have hB7 : Below w5.heap.size w5 (w5.alloc (.cells #[] 5)) := (Below.refl _ _).alloc (Nat.le_refl _) _
  have HO := Lib.hid (owns_empty w5)
  have hb1 : Bytes (w5.alloc (.cells #[] 5)) (some ⟨T, 0, none⟩) 32 32 g := ⟨fun _ => ⟨T, 0, rfl, by have := hs5.out; rw [alloc_size]; omega, hTr.out.reads.below hB7 hs5.out⟩, fun i _ => by rw [HG.out]; exact Sha.sum_lt _ _ _, Nat.le_refl _, fun e => by cases e⟩
  have hb2 : Bytes (w5.alloc (.cells #[] 5)) p n cap f := (HB.out.below hB6.out (Nat.le_refl _)).below hB7 (Nat.le_refl _)
  have HB1 := Lib.hid hb1
  have HB2 := Lib.hid hb2
  have HB7 := Lib.hid hB7
  clear hb1 hb2 hB7
  go_wp2_with first
    | (at_builtin; refine wpList_append_b _ rfl (.tmp 9) (.tmp 10) rfl w5.heap.size _ 0 _ rfl HO.out (some ⟨T, 0, none⟩) 32 32 g rfl HB1.out (by omega) (by rw [alloc_size]; omega) ?_; intro v1 w6 ho1)
    | (at_builtin; refine wpList_append_b _ rfl (.tmp 11) (.tmp 12) rfl w5.heap.size _ (0 + 32) _ rfl ho1.out.1 p n cap f rfl ((HB.out.below hB6.out (Nat.le_refl _)).below (HB7.out.trans ho1.out.2) (Nat.le_refl _)) (by have := HN.out; omega) (HB7.out.trans ho1.out.2).size ?_; intro v2 w7 ho2)
  have hB8 := hB6.out.trans ((HB7.out.trans ho1.out.2).trans ho2.out.2 |>.mono hB6.out.size)
  have hB58 := (HB7.out.trans ho1.out.2).trans ho2.out.2
  have hR8 := hR6.out.below hB58 (by have := hs5.out; have := hDT.out; omega)
  have hs8 : D < w7.heap.size := by have := hB58.size; have := hs5.out; have := hDT.out; omega
  have ho5 := ho2.out.1
  have hcat : (fun i => Sha.cat 32 g f i) = Sha.cat 32 g f := rfl
  rw [List.nil_append, Nat.zero_add, bl_cat] at ho5
  obtain ⟨p7, c7, rfl, hby7, hc7⟩ := Bytes.own ho5 (fun i hi => bl_get _ _ i hi) (fun i hi => by
    unfold Sha.cat
    by_cases h : i < 32
    · rw [if_pos h, HG.out]; exact Sha.sum_lt _ _ _
    · rw [if_neg h]; exact HB.out.byte _ (by omega))
  have HS := Lib.hid (refSum_any p7 (32 + n) c7 (Sha.cat 32 g f) w7 hby7 (by have := HN.out; omega))
  replace hB8 := Lib.hid hB8
  replace hR8 := Lib.hid hR8
  replace hs8 := Lib.hid hs8
  clear ho1 ho2 ho5 hby7 hc7 hB58 HB1 HB2 HB7 HO hcat hR6 hB6 hs5 hDT
  go_wp2_with fail
  refine HS.out.mono ?_
  rintro e w8 ⟨rfl, hb8⟩
  have hR9 := Lib.hid (hR8.out.below hb8 hs8.out)
  have hB10 := Lib.hid (hB8.out.trans (hb8.mono hB8.out.size))
  clear hb8 HS hR8 hB8 hs8
  obtain ⟨G, hG⟩ : ∃ G, G = Sha.sum (32 + n) (Sha.cat 32 g f) := ⟨_, rfl⟩
  rw [show d32 (Sha.sum (32 + n) (Sha.cat 32 g f)) = Value.agg (c32 G).toArray by rw [hG]; rfl]
  have HGG := Lib.hid hG
  clear hG
  go_wp2_with (refine wpList_store_mid rfl 44 (.tmp 4) (.tmp 14) rfl D 0 (c32 G).toArray rfl rfl (by rw [c32_size]; exact there32 hR9.out) (by rw [c32_size]; exact info32) (c32_one _) ?_)
  have hst := range32 (hR9.out.store (g := G)).reads
  refine bodyPost_ret (v := d32 G) (results_cell rfl rfl (run_loadVar_mid _ D 0 44 (c32 G) (.array 32 5) hst under32 rfl (by rw [c32_length]; exact info32))) rfl ⟨?_, ?_⟩
  · rw [HGG.out, HG.out]; rfl
  · exact below_cells (by rw [HD.out]; exact Nat.le_refl _) _ _ _ hB10.out
end Go.Proofs.YtelikpkekloffaaDoor
