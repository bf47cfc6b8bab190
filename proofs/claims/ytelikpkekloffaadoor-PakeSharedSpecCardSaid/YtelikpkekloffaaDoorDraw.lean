/- Steps of a region that draws its order, each over whatever world: a new empty slice, a slice of one byte, a digest's variable, an append, a store of a digest; three digests in a row. -/
import Derived.Test.YtelikpkekloffaaDoorHold
import Derived.Test.YtelikpkekloffaaDoorRefS
import Derived.Deep.CutRange
namespace Go.Proofs.YtelikpkekloffaaDoor
open Go.RowKit

theorem run_new0 (w : World) : Sem.run Tryd.prog (Instr.buildSlice 33 0 #[]) w = .ok (.slice (some ⟨w.heap.size, 0, none⟩) 0 0) (w.alloc (.cells #[] 5)) := by kernel_rfl
theorem run_new1 (n : Int) (w : World) : Sem.run Tryd.prog (Instr.buildSlice 33 1 #[(0, .int .u8 n)]) w = .ok (.slice (some ⟨w.heap.size, 0, none⟩) 1 1) (w.alloc (.cells #[.int .u8 n] 5)) := by kernel_rfl
def zeroD : Obj := .cells ((List.replicate 32 0).map (Value.int .u8)).toArray 44
theorem zeroD_row {w : World} {B : Nat} (h : w.heap[B]? = some zeroD) : Row w B 0 32 .u8 (fun _ => 0) :=
  row_cells (g := fun _ => 0) (l := (List.replicate 32 0).map (Value.int .u8)) h fun i hi => by rw [List.getElem?_map, zeros32 i hi]; rfl
theorem obj_below {W W' : World} {B b : Nat} {o : Obj} (h : W.heap[B]? = some o) (hb : Below b W W') (hD : W.heap.size ≤ b) : W'.heap[B]? = some o := by
  have hl := (Array.getElem?_eq_some_iff.1 h).1
  rw [hb.block B (by omega)]; exact h
theorem own_ne {w : World} {B base n : Nat} {v : Value} {xs : List Value} (h : w.heap[B]? = some zeroD) (ho : w.ownsRow base 5 1 v n xs) : some B ≠ v.ownBlock := by
  rcases ho.2 with ⟨rfl, rfl⟩ | ⟨g, cap, cur, rfl, _, hg, _⟩
  · intro e; cases e
  · intro e
    have e1 : B = g := by
      have : some B = some g := e
      simpa using this
    subst e1
    rw [h] at hg
    have e2 := Option.some.inj hg
    unfold zeroD at e2
    injection e2 with _ e3
    exact absurd e3 (by decide)
theorem own_ge {w : World} {base n : Nat} {v : Value} {xs : List Value} (ho : w.ownsRow base 5 1 v n xs) : ∀ k, v.ownBlock = some k → base ≤ k := fun k hk => (ho.lt k hk).1

section
variable {ops : Array Oper} {o : Oper} {a : Act} {w : World} {K : Act → World → Prop} {Q : Exit → Act → World → Prop}
theorem st_run (hg : o.guard = none) (v : Value) (w' : World) (hrun : (execOp a.eval o).run Tryd.prog w = .ok (.value v) w') (h : K (a.put o.dst v) w') :
    if Region.wanted o (yielded ops a.tmps) = true then Oper.wp Tryd.prog o a w K Q else K (a.put o.dst undef) w := by
  rw [if_pos (by simp [Region.wanted, hg])]
  unfold Oper.wp
  rw [hrun, Oper.upon_value]
  exact h
theorem st_new0 (hg : o.guard = none) (ho : o.op = .buildSlice 33 0 #[])
    (h : ∀ w', Hid (w'.ownsRow w.heap.size 5 1 (.slice (some ⟨w.heap.size, 0, none⟩) 0 0) 0 [] ∧ Below w.heap.size w w') → K (a.put o.dst (.slice (some ⟨w.heap.size, 0, none⟩) 0 0)) w') :
    if Region.wanted o (yielded ops a.tmps) = true then Oper.wp Tryd.prog o a w K Q else K (a.put o.dst undef) w := by
  refine st_run hg _ (w.alloc (.cells #[] 5)) ?_ (h _ (Lib.hid ⟨owns_empty w, (Below.refl _ _).alloc (Nat.le_refl _) _⟩))
  unfold execOp
  simp only [ho, List.map_toArray, List.map_nil, Sem.run_bind, run_new0, Result.andThen_ok, Sem.run_pure]
theorem st_new1 (hg : o.guard = none) (x : Operand) (ho : o.op = .buildSlice 33 1 #[(0, x)]) (n : Nat) (hn : n < 256) (hx : a.eval x = .int .u8 (n : Int))
    (h : ∀ w', Hid (Bytes w' (some ⟨w.heap.size, 0, none⟩) 1 1 (fun _ => n) ∧ Below w.heap.size w w') → K (a.put o.dst (.slice (some ⟨w.heap.size, 0, none⟩) 1 1)) w') :
    if Region.wanted o (yielded ops a.tmps) = true then Oper.wp Tryd.prog o a w K Q else K (a.put o.dst undef) w := by
  refine st_run hg _ (w.alloc (.cells #[.int .u8 (n : Int)] 5)) ?_ (h _ (Lib.hid ⟨byte_new w n hn, (Below.refl _ _).alloc (Nat.le_refl _) _⟩))
  unfold execOp
  simp only [ho, List.map_toArray, List.map_cons, List.map_nil, hx, Sem.run_bind, run_new1, Result.andThen_ok, Sem.run_pure]
theorem st_dig (hg : o.guard = none) (ho : o.op = .alloc 44)
    (h : ∀ w', Hid (w'.heap[w.heap.size]? = some zeroD ∧ Below w.heap.size w w') → K (a.put o.dst (.pointer (some ⟨w.heap.size, 0, none⟩))) w') :
    if Region.wanted o (yielded ops a.tmps) = true then Oper.wp Tryd.prog o a w K Q else K (a.put o.dst undef) w := by
  refine st_run hg _ (w.alloc zeroD) ?_ (h _ (Lib.hid ⟨?_, (Below.refl _ _).alloc (Nat.le_refl _) _⟩))
  · unfold execOp
    simp only [ho, Sem.run_bind, run_alloc32, Result.andThen_ok, Sem.run_pure]
    rfl
  · show (w.heap.push _)[w.heap.size]? = _
    rw [Array.getElem?_push, if_pos rfl]
/-- append to an empty slice of the call's own: a new block. -/
theorem st_app0 (hg : o.guard = none) (s x : Operand) (ho : o.op = .call { callee := .builtin .append, args := #[s, x], argTypes := #[33, 33] }) (b : Nat) (hs : a.eval s = .slice (some ⟨b, 0, none⟩) 0 0)
    (ad : Addr) (m c : Nat) (f : Nat → Nat) (hx : a.eval x = .slice (some ad) m c) (hb : Bytes w (some ad) m c f) (hm : 0 < m) (hle : m ≤ 140737488355328)
    (h : ∀ v' w', Hid (w'.ownsRow w.heap.size 5 1 v' m (bl m f) ∧ Below w.heap.size w w') → K (a.put o.dst v') w') :
    if Region.wanted o (yielded ops a.tmps) = true then Oper.wp Tryd.prog o a w K Q else K (a.put o.dst undef) w := by
  rw [if_pos (by simp [Region.wanted, hg])]
  obtain ⟨i, hi, hzz⟩ := Option.map_eq_some_iff.1 info8
  simp only [Prod.mk.injEq] at hzz
  obtain ⟨hz, hs1, hb1⟩ := hzz
  obtain ⟨B, off, e1, _, _⟩ := hb.lies hm
  obtain rfl : ad = ⟨B, off, none⟩ := by simpa using e1
  obtain ⟨v', w', hrun, r1, r2⟩ := run_append_arg_grows (P := Tryd.prog) w 33 o.type 5 i (.int .u8 0) 1 1 Tryd.underlying33 hi hz hs1 hb1 rfl (by decide) ⟨b, 0, none⟩ 0 0 [] (by simp) (fun j u hu => by cases hu) _ m c (bl m f) (by rw [bl_length, Nat.mul_one]) hb.cells (by omega) (by unfold maxLen; omega) (by omega)
  rw [Nat.zero_add, List.nil_append] at r1
  unfold Oper.wp
  simp [execOp, ho, resolve, invoke, builtin, hs, hx, hrun, Result.andThen]
  exact h v' w' (Lib.hid ⟨r1, ⟨r2.os, r2.tape, r2.output, r2.size, fun k hk => r2.block k hk (by simp)⟩⟩)
/-- append to a slice of the call's own, which stands or grows. -/
theorem st_app (hg : o.guard = none) (s x : Operand) (ho : o.op = .call { callee := .builtin .append, args := #[s, x], argTypes := #[33, 33] }) (base : Nat) (v : Value) (n : Nat) (xs : List Value) (hs : a.eval s = v) (hown : w.ownsRow base 5 1 v n xs)
    (ad : Addr) (m c : Nat) (f : Nat → Nat) (hx : a.eval x = .slice (some ad) m c) (hb : Bytes w (some ad) m c f) (hm : 0 < m) (hle : n + m ≤ 140737488355328) (hbase : base ≤ w.heap.size)
    (h : ∀ v' w', Hid (w'.ownsRow base 5 1 v' (n + m) (xs ++ bl m f) ∧ Below base w w' ∧ ∀ B : Nat, w.heap[B]? = some zeroD → w'.heap[B]? = some zeroD) → K (a.put o.dst v') w') :
    if Region.wanted o (yielded ops a.tmps) = true then Oper.wp Tryd.prog o a w K Q else K (a.put o.dst undef) w := by
  rw [if_pos (by simp [Region.wanted, hg])]
  obtain ⟨i, hi, hzz⟩ := Option.map_eq_some_iff.1 info8
  simp only [Prod.mk.injEq] at hzz
  obtain ⟨hz, hs1, hb1⟩ := hzz
  obtain ⟨B, off, e1, _, _⟩ := hb.lies hm
  obtain rfl : ad = ⟨B, off, none⟩ := by simpa using e1
  refine wp_append_own w s x 33 ho base 5 i (.int .u8 0) 1 1 Tryd.underlying33 hi hz hs1 hb1 rfl (by decide) v n xs hs hown _ m c (bl m f) hx (by rw [bl_length, Nat.mul_one]) hb.cells (bl_one m f) (by unfold maxLen; omega) (by omega) hbase ?_
  intro v' w' h1 h2 h3
  exact h v' w' (Lib.hid ⟨h1, below_grown h2 (own_ge hown) hbase, fun D hD => by
    have hl := (Array.getElem?_eq_some_iff.1 hD).1
    rw [h2.block D hl (own_ne hD hown)]; exact hD⟩)
/-- the digest's store, at the region's end. -/
theorem st_store (hg : o.guard = none) (x y : Operand) (ho : o.op = .store 44 x y) (B : Nat) (g : Nat → Nat) (hx : a.eval x = .pointer (some ⟨B, 0, none⟩)) (hy : a.eval y = .agg (c32 g).toArray)
    (hd : w.heap[B]? = some zeroD) {W0 : World} {b : Nat} (hB : b ≤ B) (hb : Below b W0 w)
    (h : ∀ w', Hid (DigC B g w' ∧ Below b W0 w') → K (a.put o.dst undef) w') :
    if Region.wanted o (yielded ops a.tmps) = true then Oper.wp Tryd.prog o a w K Q else K (a.put o.dst undef) w := by
  rw [if_pos (by simp [Region.wanted, hg])]
  exact wp_store_mid 44 x y ho B 0 (c32 g).toArray hx hy (there_c32 (zeroD_row hd) g) (dig_size g) (c32_one g) (h _ (Lib.hid ⟨(zeroD_row hd).store, below_cells hB _ _ _ hb⟩))
end

/-! three digests in a row -/
def sel3 (x y z : Nat → Nat) (i : Nat) : Nat → Nat := if i = 0 then x else if i = 1 then y else z
theorem sel3_lt {x y z : Nat → Nat} (hx : ∀ i, i < 32 → x i < 256) (hy : ∀ i, i < 32 → y i < 256) (hz : ∀ i, i < 32 → z i < 256) (j : Nat) : ∀ i, i < 32 → sel3 x y z j i < 256 := by
  unfold sel3
  split
  · exact hx
  · split
    · exact hy
    · exact hz
theorem own_le {w : World} {base base' n : Nat} {v : Value} {xs : List Value} (h : w.ownsRow base 5 1 v n xs) (hb : base' ≤ base) : w.ownsRow base' 5 1 v n xs :=
  ⟨h.1, h.2.elim Or.inl (fun ⟨g, cap, cur, hv, hg, r⟩ => Or.inr ⟨g, cap, cur, hv, Nat.le_trans hb hg, r⟩)⟩
def ThreeC (B : Nat) (x y z : Nat → Nat) (W : World) : Prop := W.heap[B]? = some (.cells (c32 x ++ (c32 y ++ c32 z)).toArray 44)
theorem ThreeC.kept (B : Nat) (x y z : Nat → Nat) : Kept (ThreeC B x y z) := fun _ _ _ h hb hD => obj_below h hb hD
theorem three_get (x y z : Nat → Nat) (i j : Nat) (hi : i < 3) (hj : j < 32) : (c32 x ++ (c32 y ++ c32 z))[32 * i + j]? = some (.int .u8 (sel3 x y z i j : Nat)) := by
  match i, hi with
  | 0, _ => rw [List.getElem?_append_left (by rw [c32_length]; omega), show 32 * 0 + j = j by omega]; exact c32_get x j hj
  | 1, _ =>
    rw [List.getElem?_append_right (by rw [c32_length]; omega), c32_length, List.getElem?_append_left (by rw [c32_length]; omega), show 32 * 1 + j - 32 = j by omega]
    exact c32_get y j hj
  | 2, _ =>
    rw [List.getElem?_append_right (by rw [c32_length]; omega), c32_length, List.getElem?_append_right (by rw [c32_length]; omega), c32_length, show 32 * 2 + j - 32 - 32 = j by omega]
    exact c32_get z j hj
theorem three_range {B : Nat} {x y z : Nat → Nat} {W : World} (h : ThreeC B x y z W) (i : Nat) (hi : i < 3) : W.rangeAt B (32 * i) (c32 (sel3 x y z i)) := fun j v hv => by
  have hj : j < 32 := by have := (List.getElem?_eq_some_iff.1 hv).1; rw [c32_length] at this; exact this
  rw [c32_get _ j hj] at hv
  rw [cell_of_row W B (32 * i + j) _ _ _ h, List.getElem?_toArray, three_get x y z i j hi hj]
  exact hv
theorem run_new3 (x y z : Nat → Nat) (w : World) : Sem.run Tryd.prog (Instr.buildSlice 52 3 #[(0, .agg (c32 x).toArray), (1, .agg (c32 y).toArray), (2, .agg (c32 z).toArray)]) w =
    .ok (.slice (some ⟨w.heap.size, 0, none⟩) 3 3) (w.alloc (.cells (c32 x ++ (c32 y ++ c32 z)).toArray 44)) := by kernel_rfl
theorem run_ix (B : Nat) (W : World) (i : Nat) (h : i < 3) : Sem.run Tryd.prog (Instr.indexAt 52 (.slice (some ⟨B, 0, none⟩) 3 3) (.int .i64 (i : Int))) W = .ok (.pointer (some ⟨B, 32 * i, none⟩)) W := by
  match i, h with
  | 0, _ => show _ = _; kernel_rfl
  | 1, _ => show _ = _; kernel_rfl
  | 2, _ => show _ = _; kernel_rfl
section
variable {ops : Array Oper} {rest : List Oper} {op : Oper} {a : Act} {w : World} {Q : Exit → Act → World → Prop}
theorem wpList_new3 (hg : op.guard = none) (i j k : Nat) (ho : op.op = .buildSlice 52 3 #[(0, .tmp i), (1, .tmp j), (2, .tmp k)]) (x y z : Nat → Nat)
    (hx : a.eval (.tmp i) = .agg (c32 x).toArray) (hy : a.eval (.tmp j) = .agg (c32 y).toArray) (hz : a.eval (.tmp k) = .agg (c32 z).toArray)
    (h : ∀ w', Hid (ThreeC w.heap.size x y z w' ∧ Below w.heap.size w w') → wpList Tryd.prog ops Q rest (a.put op.dst (.slice (some ⟨w.heap.size, 0, none⟩) 3 3)) w') : wpList Tryd.prog ops Q (op :: rest) a w := by
  refine Great.wpList_runTo hg op.dst rfl (.slice (some ⟨w.heap.size, 0, none⟩) 3 3) (w.alloc (.cells (c32 x ++ (c32 y ++ c32 z)).toArray 44)) ?_ (h _ (Lib.hid ⟨?_, (Below.refl _ _).alloc (Nat.le_refl _) _⟩))
  · unfold execOp
    simp only [ho, List.map_toArray, List.map_cons, List.map_nil, hx, hy, hz, Sem.run_bind, run_new3, Result.andThen_ok, Sem.run_pure]
  · show (w.heap.push _)[w.heap.size]? = _
    rw [Array.getElem?_push, if_pos rfl]
theorem wpList_load3 (hg : op.guard = none) (x : Operand) (ho : op.op = .load 44 x) (B i : Nat) (hi : i < 3) (f g h' : Nat → Nat) (hr : ThreeC B f g h' w) (hx : a.eval x = .pointer (some ⟨B, 32 * i, none⟩))
    (h : wpList Tryd.prog ops Q rest (a.put op.dst (.agg (c32 (sel3 f g h' i)).toArray)) w) : wpList Tryd.prog ops Q (op :: rest) a w :=
  wpList_load_mid hg 44 x ho B (32 * i) hx (c32 (sel3 f g h' i)) (.array 32 5) (three_range hr i hi) under32 rfl (info_dig' _) h
end
theorem Hold.tail {w W : World} {p : World → Prop} {L : List (World → Prop)} (h : Hold w (p :: L) W) : Hold w L W :=
  ⟨h.below, fun q hq => h.ok q (.tail _ hq), fun q hq => h.keep q (.tail _ hq)⟩
theorem Hold.addDigNew {w W : World} {L : List (World → Prop)} (h : Hold w L W) (g : Nat → Nat) (T : TypeId) : Hold w (DigC W.heap.size g :: L) (W.alloc (.cells (c32 g).toArray T)) :=
  h.add ((Below.refl _ _).alloc (Nat.le_refl _) _) (Nat.le_refl _) _ (row_new W _ T 32 .u8 _ fun i hi => by rw [List.getElem?_toArray]; exact c32_get g i hi) (DigC.kept _ _)
theorem Hold.three {w W : World} {L : List (World → Prop)} {B : Nat} {x y z : Nat → Nat} (h : Hold w L W) (hm : ThreeC B x y z ∈ L) : ThreeC B x y z W := h.ok _ hm
theorem cat33_lt {k : Nat → Nat} (hk : ∀ i, i < 32 → k i < 256) {r : Nat} (hr : r < 256) : ∀ i, i < 32 + 1 → Sha.cat 32 k (fun _ => r) i < 256 := fun i _ => by
  unfold Sha.cat
  by_cases h : i < 32
  · rw [if_pos h]; exact hk i h
  · rw [if_neg h]; exact hr
end Go.Proofs.YtelikpkekloffaaDoor
