/- '==' of two digests. -/
import Derived.Test.YtelikpkekloffaaDoorDigD
import Derived.DeepKeys
namespace Go.Proofs.YtelikpkekloffaaDoor
open Go.RowKit
theorem mapM_all {α β : Type} (F : α → Option β) (G : α → β) : ∀ (l : List α), (∀ a ∈ l, F a = some (G a)) → l.mapM F = some (l.map G)
  | [], _ => by simp
  | a :: l, h => by
    rw [List.mapM_cons, h a (by simp), mapM_all F G l (fun b hb => h b (by simp [hb]))]
    rfl
theorem cells8 : Tryd.prog.cellsOf 5 = 1 := by kernel_rfl
theorem cells44 : Tryd.prog.cellsOf 44 = 32 := by kernel_rfl
theorem litByte (n : Nat) (h : n < 256) : Tryd.prog.keyLits 1 5 [.int .u8 (n : Int)] = some [.int .u8 (n : Int)] := by
  unfold Program.keyLits
  rw [under_byte]
  have hw : (Lit.int .u8 (n : Int)).wf = true := by
    simp [Lit.wf, show IntKind.u8.min = 0 from rfl, show IntKind.u8.max = 255 from rfl]
    omega
  simp [hw]
theorem lits32 (x : Nat → Nat) (hx : ∀ i, i < 32 → x i < 256) : Tryd.prog.keyLits 2 44 (c32 x) = some ((List.range 32).map fun i => Lit.int .u8 (x i)) := by
  unfold Program.keyLits
  rw [under32]
  simp only [cells8, cells44, c32_length]
  rw [if_pos trivial, mapM_all _ (fun i => [Lit.int .u8 (x i : Int)]) _ ?_]
  · simp
    exact List.map_eq_flatMap.symm
  · intro i hi
    have hi' := List.mem_range.1 hi
    have e : ((c32 x).drop (i * 1)).take 1 = [.int .u8 (x i : Int)] := by
      rw [Nat.mul_one, List.take_one, List.head?_drop, c32_get x i hi']
      rfl
    rw [e]
    exact litByte _ (hx i hi')
theorem form32 (x : Nat → Nat) : (Value.agg (c32 x).toArray).formed Tryd.prog 44 = true := by
  unfold Value.formed
  simp only [under32, cells44, c32_size]
  rfl
theorem key44 : Tryd.prog.keyTypeAt 2 44 = true := by kernel_rfl
theorem lits_inj (x y : Nat → Nat) (e : ((List.range 32).map fun i => Lit.int .u8 (x i : Int)) = ((List.range 32).map fun i => Lit.int .u8 (y i : Int))) : ∀ i, i < 32 → x i = y i := by
  intro i hi
  have h4 : some (Lit.int .u8 (x i : Int)) = some (Lit.int .u8 (y i : Int)) := by
    have g : ∀ z : Nat → Nat, ((List.range 32).map fun i => Lit.int .u8 (z i : Int))[i]? = some (Lit.int .u8 (z i : Int)) := fun z => by
      rw [List.getElem?_map, List.getElem?_range hi]; rfl
    rw [← g x, ← g y, e]
  injection h4 with h5
  injection h5 with _ h6
  omega
theorem lits_congr (x y : Nat → Nat) (e : ∀ i, i < 32 → x i = y i) : ((List.range 32).map fun i => Lit.int .u8 (x i : Int)) = ((List.range 32).map fun i => Lit.int .u8 (y i : Int)) :=
  List.map_congr_left fun i hi => by rw [e i (List.mem_range.1 hi)]
theorem eq32' (d : Nat) (x y : Nat → Nat) (hx : ∀ i, i < 32 → x i < 256) (hy : ∀ i, i < 32 → y i < 256) (w : World) : ∃ r : Bool, Sem.run Tryd.prog (Op.equalIn (d + 2) 44 (.agg (c32 x).toArray) (.agg (c32 y).toArray)) w = .ok r w ∧ (r = true ↔ ∀ i, i < 32 → x i = y i) := by
  have hlx := lits32 x hx
  have hly := lits32 y hy
  have e0 : ∀ z, (Value.agg (c32 z).toArray).cells.toList = c32 z := fun z => by simp [Value.cells]
  rw [← e0 x] at hlx
  rw [← e0 y] at hly
  obtain ⟨r, h1, h2⟩ := run_equalIn_deep (P := Tryd.prog) d 2 44 key44 w 2 2 _ _ _ _ (form32 x) (form32 y) hlx hly
  refine ⟨r, h1, h2.trans ⟨?_, ?_⟩⟩
  · exact lits_inj x y
  · exact lits_congr x y
theorem eq32 (x y : Nat → Nat) (hx : ∀ i, i < 32 → x i < 256) (hy : ∀ i, i < 32 → y i < 256) (w : World) : ∃ r : Bool, Sem.run Tryd.prog (Op.equalIn 10000 44 (.agg (c32 x).toArray) (.agg (c32 y).toArray)) w = .ok r w ∧ (r = true ↔ ∀ i, i < 32 → x i = y i) :=
  eq32' 9998 x y hx hy w
end Go.Proofs.YtelikpkekloffaaDoor
