/- pake.proof of this program, walked. -/
import Derived.Test.YtelikpkekloffaaDoorPakeC
import Derived.Test.YtelikpkekloffaaDoorEq32
import Derived.ArgAppend
namespace Go.Proofs.YtelikpkekloffaaDoor
open Go.RowKit

def proofT : ByteArray := ⟨#[112, 114, 111, 111, 102]⟩
/-- the proof of a role. -/
def prOf (k : Nat → Nat) (r : Nat) : Nat → Nat := Sha.tagged proofT.size (sb proofT) 33 (Sha.cat 32 k (fun _ => r))

/-- append of bytes to a slice that is full. -/
theorem wpList_append_full (w : World) {ops : Array Oper} {rest : List Oper} {o : Oper} {a : Act} {Q : Exit → Act → World → Prop} (hgd : o.guard = none) (s x : Operand)
    (ho : o.op = .call { callee := .builtin .append, args := #[s, x], argTypes := #[33, 33] }) (b : Addr) (n cap : Nat) (f : Nat → Nat) (hs : a.eval s = .slice (some b) n cap) (hbs : Bytes w (some b) n cap f)
    (ad : Addr) (m c : Nat) (g : Nat → Nat) (hx : a.eval x = .slice (some ad) m c) (hb : Bytes w (some ad) m c g) (h0 : 0 < n) (hm : 0 < m) (hfull : cap < n + m) (hle : n + m ≤ 140737488355328)
    (h : ∀ v' w', Hid (w'.ownsRow w.heap.size 5 1 v' (n + m) (bl (n + m) (Sha.cat n f g)) ∧ Below w.heap.size w w') → wpList Tryd.prog ops Q rest (a.put o.dst v') w') : wpList Tryd.prog ops Q (o :: rest) a w := by
  obtain ⟨i, hi, hzz⟩ := Option.map_eq_some_iff.1 info8
  simp only [Prod.mk.injEq] at hzz
  obtain ⟨hz, hs1, hb1⟩ := hzz
  obtain ⟨B, off, e1, _, _⟩ := hb.lies hm
  obtain rfl : ad = ⟨B, off, none⟩ := by simpa using e1
  obtain ⟨B2, off2, e2, _, _⟩ := hbs.lies h0
  obtain rfl : b = ⟨B2, off2, none⟩ := by simpa using e2
  refine wpList_append_grows w hgd s x 33 ho 5 i (.int .u8 0) 1 1 Tryd.underlying33 hi hz hs1 hb1 rfl (by decide) _ n cap (bl n f) hs (fun e => by cases e) (by rw [bl_length, Nat.mul_one]) (fun b' e => by cases e; exact hbs.cells) _ m c (bl m g) hx (by rw [bl_length, Nat.mul_one]) hb.cells (bl_one m g) hfull (by unfold maxLen; omega) (by omega) ?_
  intro v' w' h1 h2
  rw [bl_cat] at h1
  exact h v' w' (Lib.hid ⟨h1, ⟨h2.os, h2.tape, h2.output, h2.size, fun k hk => h2.block k hk (by simp)⟩⟩)

theorem run_slice_key (W : World) (D : Nat) : Sem.run Tryd.prog (Instr.sliceAt 37 (.pointer (some ⟨D, 0, none⟩)) none none none) W = .ok (.slice (some ⟨D, 0, none⟩) 32 32) W := by kernel_rfl

/-- what stands while proof calculates. -/
structure RG (w : World) (k : Nat → Nat) (W : World) : Prop where
  below : Below w.heap.size w W
  k : Row W w.heap.size 0 32 .u8 (fun i => (k i : Int))
  d : Row W (w.heap.size + 1) 0 32 .u8 (fun _ => 0)
  z : w.heap.size + 1 < W.heap.size
theorem RG.first (w : World) (k : Nat → Nat) (T : TypeId) : RG w k ((w.alloc (.cells (c32 k).toArray T)).alloc (.cells (List.replicate 32 (Value.int .u8 0)).toArray 44)) := by
  have h := row_zeros32 (w.alloc (.cells (c32 k).toArray T)) 44
  rw [alloc_size] at h
  have h1 : Row (w.alloc (.cells (c32 k).toArray T)) w.heap.size 0 32 .u8 (fun i => (k i : Int)) := row_new w _ T 32 .u8 _ fun i hi => by rw [List.getElem?_toArray]; exact c32_get k i hi
  exact ⟨((Below.refl _ _).alloc (Nat.le_refl _) _).alloc (by rw [alloc_size]; omega) _, h1.below ((Below.refl (w.alloc (.cells (c32 k).toArray T)).heap.size _).alloc (Nat.le_refl _) _) (by rw [alloc_size]; omega), h, by rw [alloc_size, alloc_size]; omega⟩
theorem RG.next {w W W' : World} {k : Nat → Nat} {b : Nat} (h : RG w k W) (hb : Below b W W') (hD : W.heap.size ≤ b) : RG w k W' :=
  ⟨h.below.trans (hb.mono (by have := h.z; omega)), h.k.below hb (by have := h.z; omega), h.d.below hb (by have := h.z; omega), Nat.lt_of_lt_of_le h.z hb.size⟩

set_option maxHeartbeats 4000000 in
set_option maxRecDepth 100000 in
theorem pproof_any (k : Nat → Nat) (hk : ∀ i, i < 32 → k i < 256) (r : Nat) (hr : r < 256) (w : World) (hT : Tabs w) :
    Calls Tryd.prog 79 #[d32 k, .int .i64 (r : Int)] w fun e w' => e = .returned (d32 (prOf k r)) ∧ Below w.heap.size w w' := by
  have e1 : IntKind.u8.wrap (r : Int) = (r : Int) := by
    simp only [IntKind.wrap, IntKind.bits, IntKind.signed]; simp; omega
  have HT := Lib.hid hT
  have HK := Lib.hid hk
  have HR := Lib.hid hr
  clear hT hk hr
  rw [show d32 k = Value.agg (c32 k).toArray from rfl]
  go_enter Tryd.func79, Tryd.ntmps79
  go_upto_region 1 with fail
  change Code.wp Tryd.prog _ _ _ ((w.alloc (.cells (c32 k).toArray 37)).alloc (.cells (List.replicate 32 (Value.int .u8 0)).toArray 44))
  have hG := RG.first w k 37
  generalize (w.alloc (.cells (c32 k).toArray 37)).alloc (.cells (List.replicate 32 (Value.int .u8 0)).toArray 44) = w1 at *
  have HG := Lib.hid hG
  clear hG
  have hsl := fun W => run_slice_key W w.heap.size
  have hG2 := Lib.hid (HG.out.next ((Below.refl _ _).alloc (Nat.le_refl _) (.cells #[.int .u8 (r : Int)] 5)) (Nat.le_refl _))
  have hkb : Bytes (w1.alloc (.cells #[.int .u8 (r : Int)] 5)) (some ⟨w.heap.size, 0, none⟩) 32 32 k := ⟨fun _ => ⟨w.heap.size, 0, rfl, by have := hG2.out.z; omega, hG2.out.k.reads⟩, HK.out, Nat.le_refl _, fun e => by cases e⟩
  have HKB := Lib.hid hkb
  clear hkb
  go_wp2_with (at_builtin; refine wpList_append_full _ rfl (.tmp 5) (.tmp 8) rfl _ 32 32 k rfl HKB.out _ 1 1 (fun _ => r) rfl (byte_new _ r HR.out) (by omega) (by omega) (by omega) (by omega) ?_; intro v2 w2 ho2)
  obtain ⟨p2, c2, rfl, hb2, hc2⟩ := Bytes.own ho2.out.1 (fun i hi => bl_get _ _ i hi) (fun i _ => by
    unfold Sha.cat
    by_cases h : i < 32
    · rw [if_pos h]; exact HK.out i h
    · rw [if_neg h]; exact HR.out)
  have hG3 := Lib.hid (hG2.out.next ho2.out.2 (Nat.le_refl _))
  have HTG := Lib.hid (tagged_any proofT p2 (32 + 1) c2 (Sha.cat 32 k (fun _ => r)) w2 (HT.out.below hG3.out.below) hb2 (by decide) (by decide) hc2)
  obtain ⟨G, hGe⟩ : ∃ G, G = Sha.tagged proofT.size (sb proofT) (32 + 1) (Sha.cat 32 k (fun _ => r)) := ⟨_, rfl⟩
  rw [← hGe] at HTG
  have HGE := Lib.hid hGe
  unfold d32 at HTG
  clear hb2 hc2 hGe HKB hG2 ho2 HK
  go_wp2_with fail
  refine HTG.out.mono ?_
  rintro e w3 ⟨rfl, hb1⟩
  have hG4 := Lib.hid (hG3.out.next hb1 (Nat.le_refl _))
  clear hb1 HTG hG3
  go_wp2_with (refine wpList_store_mid rfl 44 (.tmp 4) (.tmp 10) rfl (w.heap.size + 1) 0 (c32 G).toArray rfl rfl (by rw [c32_size]; exact there32 hG4.out.d) (by rw [c32_size]; exact info32) (c32_one _) ?_)
  have hst := range32 (hG4.out.d.store (g := G)).reads
  refine bodyPost_ret (v := d32 G) (results_cell rfl rfl (run_loadVar_mid _ (w.heap.size + 1) 0 44 (c32 G) (.array 32 5) hst under32 rfl (by rw [c32_length]; exact info32))) rfl ⟨?_, ?_⟩
  · rw [HGE.out]; rfl
  · exact below_cells (by omega) _ _ _ hG4.out.below
end Go.Proofs.YtelikpkekloffaaDoor
