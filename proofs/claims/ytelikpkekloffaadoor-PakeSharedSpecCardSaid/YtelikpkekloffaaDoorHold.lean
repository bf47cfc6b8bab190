/- What stands while a law about pake calculates: sides, keys, digests in cells of their own; '==' of two keys. -/
import Derived.Test.YtelikpkekloffaaDoorPakeE
import Derived.Test.YtelikpkekloffaaDoorPkL
namespace Go.Proofs.YtelikpkekloffaaDoor
open Go.RowKit

/-- it holds on in every later world. -/
def Kept (p : World → Prop) : Prop := ∀ (W W' : World) (b : Nat), p W → Below b W W' → W.heap.size ≤ b → p W'
def SideC (B : Nat) (r c x : Int) (W : World) : Prop := W.heap[B]? = some (.cells #[.int .i64 r, .int .i64 c, .int .i64 x] 24)
def DigC (B : Nat) (g : Nat → Nat) (W : World) : Prop := Row W B 0 32 .u8 (fun i => (g i : Int))
theorem SideC.kept (B : Nat) (r c x : Int) : Kept (SideC B r c x) := fun W W' b h hb hD => by
  have hl := (Array.getElem?_eq_some_iff.1 h).1
  show W'.heap[B]? = _
  rw [hb.block B (by omega)]; exact h
theorem DigC.lt {B : Nat} {g : Nat → Nat} {W : World} (h : DigC B g W) : B < W.heap.size := World.block_lt_of_cell? W ⟨B, 0 + 0, none⟩ (h.cell 0 (by decide))
theorem DigC.kept (B : Nat) (g : Nat → Nat) : Kept (DigC B g) := fun W W' b h hb hD => by
  have hl := h.lt
  exact Row.below h hb (by omega)
structure Hold (w : World) (L : List (World → Prop)) (W : World) : Prop where
  below : Below w.heap.size w W
  ok : ∀ p, p ∈ L → p W
  keep : ∀ p, p ∈ L → Kept p
theorem Hold.nil (w : World) : Hold w [] w := ⟨Below.refl _ _, fun _ h => (by cases h), fun _ h => (by cases h)⟩
theorem Hold.next {w W W' : World} {L : List (World → Prop)} {b : Nat} (h : Hold w L W) (hb : Below b W W') (hD : W.heap.size ≤ b) : Hold w L W' :=
  ⟨h.below.trans (hb.mono (Nat.le_trans h.below.size hD)), fun p hp => h.keep p hp W W' b (h.ok p hp) hb hD, h.keep⟩
theorem Hold.add {w W W' : World} {L : List (World → Prop)} {b : Nat} (h : Hold w L W) (hb : Below b W W') (hD : W.heap.size ≤ b) (p : World → Prop) (hp : p W') (hk : Kept p) : Hold w (p :: L) W' :=
  ⟨(h.next hb hD).below, fun q hq => by
    rcases List.mem_cons.1 hq with rfl | hq
    · exact hp
    · exact (h.next hb hD).ok q hq, fun q hq => by
    rcases List.mem_cons.1 hq with rfl | hq
    · exact hk
    · exact h.keep q hq⟩
theorem Hold.addSide {w W : World} {L : List (World → Prop)} (h : Hold w L W) (r c x : Int) : Hold w (SideC W.heap.size r c x :: L) (W.alloc (.cells #[.int .i64 r, .int .i64 c, .int .i64 x] 24)) :=
  h.add ((Below.refl _ _).alloc (Nat.le_refl _) _) (Nat.le_refl _) _ (by
    show (W.heap.push _)[W.heap.size]? = _
    rw [Array.getElem?_push, if_pos rfl]) (SideC.kept _ _ _ _)
theorem Hold.addDig {w W W' : World} {L : List (World → Prop)} {g : Nat → Nat} (h : Hold w L W) (hd : DigC W.heap.size g W') (hb : Below W.heap.size W W') : Hold w (DigC W.heap.size g :: L) W' :=
  h.add hb (Nat.le_refl _) _ hd (DigC.kept _ _)
theorem Hold.side {w W : World} {L : List (World → Prop)} {B : Nat} {r c x : Int} (h : Hold w L W) (hm : SideC B r c x ∈ L) :
    W.cell? ⟨B, 0, none⟩ = some (.int .i64 r) ∧ W.cell? ⟨B, 1, none⟩ = some (.int .i64 c) ∧ W.cell? ⟨B, 2, none⟩ = some (.int .i64 x) := by
  have h1 : W.heap[B]? = some (.cells #[.int .i64 r, .int .i64 c, .int .i64 x] 24) := h.ok _ hm
  refine ⟨?_, ?_, ?_⟩ <;> simp [World.cell?, h1]
theorem Hold.dig {w W : World} {L : List (World → Prop)} {B : Nat} {g : Nat → Nat} (h : Hold w L W) (hm : DigC B g ∈ L) : Row W B 0 32 .u8 (fun i => (g i : Int)) := h.ok _ hm

/-- a load of a digest, guarded or not. -/
theorem wpList_loadD {ops : Array Oper} {rest : List Oper} {op : Oper} {a : Act} {w : World} {Q : Exit → Act → World → Prop} (hgd : op.guard = none) (x : Operand) (ho : op.op = .load 44 x)
    (B : Nat) (g : Nat → Nat) (hr : Row w B 0 32 .u8 (fun i => (g i : Int))) (hx : a.eval x = .pointer (some ⟨B, 0, none⟩)) (h : wpList Tryd.prog ops Q rest (a.put op.dst (.agg (c32 g).toArray)) w) : wpList Tryd.prog ops Q (op :: rest) a w :=
  wpList_load_mid hgd 44 x ho B 0 hx (c32 g) (.array 32 5) (range32 hr.reads) under32 rfl (info_dig' _) h
theorem wpList_loadK {ops : Array Oper} {rest : List Oper} {op : Oper} {a : Act} {w : World} {Q : Exit → Act → World → Prop} (hgd : op.guard = none) (x : Operand) (ho : op.op = .load 37 x)
    (B : Nat) (g : Nat → Nat) (hr : Row w B 0 32 .u8 (fun i => (g i : Int))) (hx : a.eval x = .pointer (some ⟨B, 0, none⟩)) (h : wpList Tryd.prog ops Q rest (a.put op.dst (.agg (c32 g).toArray)) w) : wpList Tryd.prog ops Q (op :: rest) a w :=
  wpList_load_mid hgd 37 x ho B 0 hx (c32 g) (.array 32 5) (range32 hr.reads) under_key rfl (info_key' _) h
theorem wpList_loadDg {ops : Array Oper} {rest : List Oper} {op : Oper} {a : Act} {w : World} {Q : Exit → Act → World → Prop} (hw : Region.wanted op (yielded ops a.tmps) = true) (x : Operand) (ho : op.op = .load 44 x)
    (B : Nat) (g : Nat → Nat) (hr : Row w B 0 32 .u8 (fun i => (g i : Int))) (hx : a.eval x = .pointer (some ⟨B, 0, none⟩)) (h : wpList Tryd.prog ops Q rest (a.put op.dst (.agg (c32 g).toArray)) w) : wpList Tryd.prog ops Q (op :: rest) a w := by
  refine wpList_step fun K hK => ?_
  rw [if_pos hw]
  exact wp_load_mid 44 x ho B 0 hx (c32 g) (.array 32 5) (range32 hr.reads) under32 rfl (info_dig' _) (hK _ _ h)
theorem wpList_loadKg {ops : Array Oper} {rest : List Oper} {op : Oper} {a : Act} {w : World} {Q : Exit → Act → World → Prop} (hw : Region.wanted op (yielded ops a.tmps) = true) (x : Operand) (ho : op.op = .load 37 x)
    (B : Nat) (g : Nat → Nat) (hr : Row w B 0 32 .u8 (fun i => (g i : Int))) (hx : a.eval x = .pointer (some ⟨B, 0, none⟩)) (h : wpList Tryd.prog ops Q rest (a.put op.dst (.agg (c32 g).toArray)) w) : wpList Tryd.prog ops Q (op :: rest) a w := by
  refine wpList_step fun K hK => ?_
  rw [if_pos hw]
  exact wp_load_mid 37 x ho B 0 hx (c32 g) (.array 32 5) (range32 hr.reads) under_key rfl (info_key' _) (hK _ _ h)
theorem dig_store {W0 w : World} {B : Nat} {f : Nat → Int} (g : Nat → Nat) (hr : Row w B 0 32 .u8 f) (hb : Below B W0 w) : DigC B g (w.setCells B 0 (c32 g)) ∧ Below B W0 (w.setCells B 0 (c32 g)) :=
  ⟨hr.store, below_cells (Nat.le_refl _) _ _ _ hb⟩
/-- a store into a new key's, a new digest's cells. -/
theorem wpList_storeD {ops : Array Oper} {rest : List Oper} {op : Oper} {a : Act} {w W0 : World} {Q : Exit → Act → World → Prop} (hgd : op.guard = none) (x y : Operand) (ho : op.op = .store 44 x y)
    (B : Nat) (g : Nat → Nat) {f : Nat → Int} (hr : Row w B 0 32 .u8 f) (hb : Below B W0 w) (hx : a.eval x = .pointer (some ⟨B, 0, none⟩)) (hy : a.eval y = .agg (c32 g).toArray)
    (h : ∀ w', Hid (DigC B g w' ∧ Below B W0 w') → wpList Tryd.prog ops Q rest (a.put op.dst undef) w') : wpList Tryd.prog ops Q (op :: rest) a w :=
  wpList_store_mid hgd 44 x y ho B 0 (c32 g).toArray hx hy (there_c32 hr g) (dig_size g) (c32_one g) (h _ (Lib.hid (dig_store g hr hb)))
theorem wpList_storeK {ops : Array Oper} {rest : List Oper} {op : Oper} {a : Act} {w W0 : World} {Q : Exit → Act → World → Prop} (hgd : op.guard = none) (x y : Operand) (ho : op.op = .store 37 x y)
    (B : Nat) (g : Nat → Nat) {f : Nat → Int} (hr : Row w B 0 32 .u8 f) (hb : Below B W0 w) (hx : a.eval x = .pointer (some ⟨B, 0, none⟩)) (hy : a.eval y = .agg (c32 g).toArray)
    (h : ∀ w', Hid (DigC B g w' ∧ Below B W0 w') → wpList Tryd.prog ops Q rest (a.put op.dst undef) w') : wpList Tryd.prog ops Q (op :: rest) a w :=
  wpList_store_mid hgd 37 x y ho B 0 (c32 g).toArray hx hy (there_c32 hr g) (key_size g) (c32_one g) (h _ (Lib.hid (dig_store g hr hb)))

/-! '==' of two keys -/
theorem cellsK : Tryd.prog.cellsOf 37 = 32 := by kernel_rfl
theorem litsK (x : Nat → Nat) (hx : ∀ i, i < 32 → x i < 256) : Tryd.prog.keyLits 2 37 (c32 x) = some ((List.range 32).map fun i => Lit.int .u8 (x i)) := by
  unfold Program.keyLits
  rw [under_key]
  simp only [cells8, cellsK, c32_length]
  rw [if_pos trivial, mapM_all _ (fun i => [Lit.int .u8 (x i : Int)]) _ ?_]
  · simp
    exact List.map_eq_flatMap.symm
  · intro i hi
    have hi' := List.mem_range.1 hi
    have e : ((c32 x).drop (i * 1)).take 1 = [.int .u8 (x i : Int)] := by
      rw [Nat.mul_one, List.take_one, List.head?_drop, c32_get x i hi']
      rfl
    rw [e]
    exact litByte _ (hx i hi')
theorem formK (x : Nat → Nat) : (Value.agg (c32 x).toArray).formed Tryd.prog 37 = true := by
  unfold Value.formed
  simp only [under_key, cellsK, c32_size]
  rfl
theorem keyK : Tryd.prog.keyTypeAt 2 37 = true := by kernel_rfl
theorem eqK' (d : Nat) (x y : Nat → Nat) (hx : ∀ i, i < 32 → x i < 256) (hy : ∀ i, i < 32 → y i < 256) (w : World) : ∃ r : Bool, Sem.run Tryd.prog (Op.equalIn (d + 2) 37 (.agg (c32 x).toArray) (.agg (c32 y).toArray)) w = .ok r w ∧ (r = true ↔ ∀ i, i < 32 → x i = y i) := by
  have hlx := litsK x hx
  have hly := litsK y hy
  have e0 : ∀ z, (Value.agg (c32 z).toArray).cells.toList = c32 z := fun z => by simp [Value.cells]
  rw [← e0 x] at hlx
  rw [← e0 y] at hly
  obtain ⟨r, h1, h2⟩ := run_equalIn_deep (P := Tryd.prog) d 2 37 keyK w 2 2 _ _ _ _ (formK x) (formK y) hlx hly
  refine ⟨r, h1, h2.trans ⟨?_, ?_⟩⟩
  · exact lits_inj x y
  · exact lits_congr x y
theorem eqK_run (x y : Nat → Nat) (hx : ∀ i, i < 32 → x i < 256) (hy : ∀ i, i < 32 → y i < 256) (w : World) : Sem.run Tryd.prog (Op.equalIn 10000 37 (.agg (c32 x).toArray) (.agg (c32 y).toArray)) w = .ok (eqB x y) w := by
  obtain ⟨r, h1, h2⟩ := eqK' 9998 x y hx hy w
  rw [h1]
  have e : r = eqB x y := by
    rw [Bool.eq_iff_iff, h2, eqB_iff]
  rw [e]
theorem eqB_self (x : Nat → Nat) : eqB x x = true := (eqB_iff x x).2 fun _ _ => rfl
theorem pr_lt (k : Nat → Nat) (r : Nat) : ∀ i, i < 32 → prOf k r i < 256 := fun i _ => Sha.tagged_lt _ _ _ _ i
/-! '==', '!=' of two keys, of two digests, as one step of a region. -/
theorem guard_key : Tryd.prog.eqGuardType Tryd.prog.depth 37 = false := by kernel_rfl
theorem guard_dig : Tryd.prog.eqGuardType Tryd.prog.depth 44 = false := by kernel_rfl
section
variable {ops : Array Oper} {rest : List Oper} {op : Oper} {a : Act} {w : World} {Q : Exit → Act → World → Prop}
theorem wpList_eqlK (hw : Region.wanted op (yielded ops a.tmps) = true) (x y : Operand) (t : TypeId) (ho : op.op = .binOp .eql 37 x y t) (f g : Nat → Nat) (hf : ∀ i, i < 32 → f i < 256) (hg : ∀ i, i < 32 → g i < 256)
    (hx : a.eval x = .agg (c32 f).toArray) (hy : a.eval y = .agg (c32 g).toArray) (h : wpList Tryd.prog ops Q rest (a.put op.dst (.bool (eqB f g))) w) : wpList Tryd.prog ops Q (op :: rest) a w := by
  refine wpList_step fun K hK => ?_
  rw [if_pos hw]
  have h1 := hK _ _ h
  unfold Oper.wp execOp
  simp only [ho, hx, hy, Sem.run_bind, run_eqGuard_agg _ _ _ _ _ _ _ guard_key, run_eql_struct, eqK_run f g hf hg, Result.andThen_ok, Sem.run_pure]
  exact h1
theorem wpList_neqK (hw : Region.wanted op (yielded ops a.tmps) = true) (x y : Operand) (t : TypeId) (ho : op.op = .binOp .neq 37 x y t) (f g : Nat → Nat) (hf : ∀ i, i < 32 → f i < 256) (hg : ∀ i, i < 32 → g i < 256)
    (hx : a.eval x = .agg (c32 f).toArray) (hy : a.eval y = .agg (c32 g).toArray) (h : wpList Tryd.prog ops Q rest (a.put op.dst (.bool (!(eqB f g)))) w) : wpList Tryd.prog ops Q (op :: rest) a w := by
  refine wpList_step fun K hK => ?_
  rw [if_pos hw]
  have h1 := hK _ _ h
  unfold Oper.wp execOp
  simp only [ho, hx, hy, Sem.run_bind, run_eqGuard_agg _ _ _ _ _ _ _ guard_key, run_neq_struct, eqK_run f g hf hg, Result.andThen_ok, Sem.run_pure]
  exact h1
theorem wpList_eqlD (hw : Region.wanted op (yielded ops a.tmps) = true) (x y : Operand) (t : TypeId) (ho : op.op = .binOp .eql 44 x y t) (f g : Nat → Nat) (hf : ∀ i, i < 32 → f i < 256) (hg : ∀ i, i < 32 → g i < 256)
    (hx : a.eval x = .agg (c32 f).toArray) (hy : a.eval y = .agg (c32 g).toArray) (h : wpList Tryd.prog ops Q rest (a.put op.dst (.bool (eqB f g))) w) : wpList Tryd.prog ops Q (op :: rest) a w := by
  refine wpList_step fun K hK => ?_
  rw [if_pos hw]
  have h1 := hK _ _ h
  unfold Oper.wp execOp
  simp only [ho, hx, hy, Sem.run_bind, run_eqGuard_agg _ _ _ _ _ _ _ guard_dig, run_eql_struct, eqB_run f g hf hg, Result.andThen_ok, Sem.run_pure]
  exact h1
theorem wpList_neqD (hw : Region.wanted op (yielded ops a.tmps) = true) (x y : Operand) (t : TypeId) (ho : op.op = .binOp .neq 44 x y t) (f g : Nat → Nat) (hf : ∀ i, i < 32 → f i < 256) (hg : ∀ i, i < 32 → g i < 256)
    (hx : a.eval x = .agg (c32 f).toArray) (hy : a.eval y = .agg (c32 g).toArray) (h : wpList Tryd.prog ops Q rest (a.put op.dst (.bool (!(eqB f g)))) w) : wpList Tryd.prog ops Q (op :: rest) a w := by
  refine wpList_step fun K hK => ?_
  rw [if_pos hw]
  have h1 := hK _ _ h
  unfold Oper.wp execOp
  simp only [ho, hx, hy, Sem.run_bind, run_eqGuard_agg _ _ _ _ _ _ _ guard_dig, run_neq_struct, eqB_run f g hf hg, Result.andThen_ok, Sem.run_pure]
  exact h1
end
/-! the same, where what comes out is known. -/
section
variable {ops : Array Oper} {rest : List Oper} {op : Oper} {a : Act} {w : World} {Q : Exit → Act → World → Prop}
theorem wpList_eqlKb (hw : Region.wanted op (yielded ops a.tmps) = true) (x y : Operand) (t : TypeId) (ho : op.op = .binOp .eql 37 x y t) (f g : Nat → Nat) (hf : ∀ i, i < 32 → f i < 256) (hg : ∀ i, i < 32 → g i < 256)
    (hx : a.eval x = .agg (c32 f).toArray) (hy : a.eval y = .agg (c32 g).toArray) (b : Bool) (he : eqB f g = b) (h : wpList Tryd.prog ops Q rest (a.put op.dst (.bool b)) w) : wpList Tryd.prog ops Q (op :: rest) a w := by
  subst he
  exact wpList_eqlK hw x y t ho f g hf hg hx hy h
theorem wpList_neqKb (hw : Region.wanted op (yielded ops a.tmps) = true) (x y : Operand) (t : TypeId) (ho : op.op = .binOp .neq 37 x y t) (f g : Nat → Nat) (hf : ∀ i, i < 32 → f i < 256) (hg : ∀ i, i < 32 → g i < 256)
    (hx : a.eval x = .agg (c32 f).toArray) (hy : a.eval y = .agg (c32 g).toArray) (b : Bool) (he : (!(eqB f g)) = b) (h : wpList Tryd.prog ops Q rest (a.put op.dst (.bool b)) w) : wpList Tryd.prog ops Q (op :: rest) a w := by
  subst he
  exact wpList_neqK hw x y t ho f g hf hg hx hy h
theorem wpList_eqlDb (hw : Region.wanted op (yielded ops a.tmps) = true) (x y : Operand) (t : TypeId) (ho : op.op = .binOp .eql 44 x y t) (f g : Nat → Nat) (hf : ∀ i, i < 32 → f i < 256) (hg : ∀ i, i < 32 → g i < 256)
    (hx : a.eval x = .agg (c32 f).toArray) (hy : a.eval y = .agg (c32 g).toArray) (b : Bool) (he : eqB f g = b) (h : wpList Tryd.prog ops Q rest (a.put op.dst (.bool b)) w) : wpList Tryd.prog ops Q (op :: rest) a w := by
  subst he
  exact wpList_eqlD hw x y t ho f g hf hg hx hy h
theorem wpList_neqDb (hw : Region.wanted op (yielded ops a.tmps) = true) (x y : Operand) (t : TypeId) (ho : op.op = .binOp .neq 44 x y t) (f g : Nat → Nat) (hf : ∀ i, i < 32 → f i < 256) (hg : ∀ i, i < 32 → g i < 256)
    (hx : a.eval x = .agg (c32 f).toArray) (hy : a.eval y = .agg (c32 g).toArray) (b : Bool) (he : (!(eqB f g)) = b) (h : wpList Tryd.prog ops Q rest (a.put op.dst (.bool b)) w) : wpList Tryd.prog ops Q (op :: rest) a w := by
  subst he
  exact wpList_neqD hw x y t ho f g hf hg hx hy h
end
theorem eqB_selfN (x : Nat → Nat) : (!(eqB x x)) = false := by rw [eqB_self]; rfl
end Go.Proofs.YtelikpkekloffaaDoor
