/- Rows of cells of one integer kind in memory, and what keeps them. -/
import Derived.Test.YtelikpkekloffaaDoorRows
import Derived.WalkKit
import Derived.WalkSpells
import Derived.WalkLawsBesides
import Derived.Lib.Hide
namespace Go.Proofs.YtelikpkekloffaaDoor
open Go.RowKit

/-- n cells of kind k in block B from off on hold f 0, f 1, .. -/
structure Row (w : World) (B off n : Nat) (k : IntKind) (f : Nat → Int) : Prop where
  cell : ∀ i, i < n → w.cell? ⟨B, off + i, none⟩ = some (.int k (f i))
  free : ∀ i, i < n → w.frozen? ⟨B, off + i, none⟩ = false

/-- the same, to be read alone. -/
def Reads (w : World) (B off n : Nat) (k : IntKind) (f : Nat → Int) : Prop := ∀ i, i < n → w.cell? ⟨B, off + i, none⟩ = some (.int k (f i))

theorem Row.reads {w : World} {B off n : Nat} {k : IntKind} {f : Nat → Int} (h : Row w B off n k f) : Reads w B off n k f := h.cell
theorem Row.congr {w : World} {B off n : Nat} {k : IntKind} {f g : Nat → Int} (h : Row w B off n k f) (e : ∀ i, i < n → f i = g i) : Row w B off n k g :=
  ⟨fun i hi => by rw [h.cell i hi, e i hi], h.free⟩
theorem Reads.congr {w : World} {B off n : Nat} {k : IntKind} {f g : Nat → Int} (h : Reads w B off n k f) (e : ∀ i, i < n → f i = g i) : Reads w B off n k g :=
  fun i hi => by rw [h i hi, e i hi]
theorem Row.below {w w' : World} {B off n : Nat} {k : IntKind} {f : Nat → Int} {B0 : Nat} (h : Row w B off n k f) (hb : Below B0 w w') (hB : B < B0) : Row w' B off n k f :=
  ⟨fun i hi => (hb.cell (p := ⟨B, off + i, none⟩) hB).trans (h.cell i hi), fun i hi => (hb.frozen (p := ⟨B, off + i, none⟩) hB).trans (h.free i hi)⟩
theorem Reads.below {w w' : World} {B off n : Nat} {k : IntKind} {f : Nat → Int} {B0 : Nat} (h : Reads w B off n k f) (hb : Below B0 w w') (hB : B < B0) : Reads w' B off n k f :=
  fun i hi => (hb.cell (p := ⟨B, off + i, none⟩) hB).trans (h i hi)
theorem Row.drewN {w : World} {B off n : Nat} {k : IntKind} {f : Nat → Int} (h : Row w B off n k f) (q : Nat) : Row (w.drewN q) B off n k f := ⟨h.cell, h.free⟩
theorem Row.drew {w : World} {B off n : Nat} {k : IntKind} {f : Nat → Int} (h : Row w B off n k f) : Row w.drew B off n k f := ⟨h.cell, h.free⟩
theorem Reads.drewN {w : World} {B off n : Nat} {k : IntKind} {f : Nat → Int} (h : Reads w B off n k f) (q : Nat) : Reads (w.drewN q) B off n k f := h
theorem Row.other {w : World} {B off n : Nat} {k : IntKind} {f : Nat → Int} (h : Row w B off n k f) {a : Addr} (ha : a.block ≠ B) (v : Value) : Row (w.setCell a v) B off n k f :=
  ⟨fun i hi => by rw [World.cell?_setCell_other _ _ _ _ (fun e => ha (by rw [e]))]; exact h.cell i hi, fun i hi => by rw [World.frozen?_setCell]; exact h.free i hi⟩
theorem Reads.other {w : World} {B off n : Nat} {k : IntKind} {f : Nat → Int} (h : Reads w B off n k f) {a : Addr} (ha : a.block ≠ B) (v : Value) : Reads (w.setCell a v) B off n k f :=
  fun i hi => by rw [World.cell?_setCell_other _ _ _ _ (fun e => ha (by rw [e]))]; exact h i hi
theorem Row.set {w : World} {B off n : Nat} {k : IntKind} {f : Nat → Int} (h : Row w B off n k f) {i : Nat} (hi : i < n) (x : Int) :
    Row (w.setCell ⟨B, off + i, none⟩ (.int k x)) B off n k (fun j => if j = i then x else f j) := by
  refine ⟨fun j hj => ?_, fun j hj => by rw [World.frozen?_setCell]; exact h.free j hj⟩
  by_cases e : j = i
  · subst e
    rw [World.cell?_setCell_same' _ _ _ (by rw [h.cell j hj]; rfl), if_pos rfl]
  · rw [World.cell?_setCell_other _ _ _ _ (fun e' => e (by injection e' with _ e2; omega)), if_neg e]
    exact h.cell j hj
theorem Row.alloc {w : World} {B off n : Nat} {k : IntKind} {f : Nat → Int} (h : Row w B off n k f) (hB : B < w.heap.size) (o : Obj) : Row (w.alloc o) B off n k f :=
  h.below ((Below.refl w.heap.size w).alloc (Nat.le_refl _) o) hB
theorem Row.sub {w : World} {B off n : Nat} {k : IntKind} {f : Nat → Int} (h : Row w B off n k f) (a m : Nat) (hm : a + m ≤ n) : Row w B (off + a) m k (fun i => f (a + i)) :=
  ⟨fun i hi => by rw [Nat.add_assoc]; exact h.cell (a + i) (by omega), fun i hi => by rw [Nat.add_assoc]; exact h.free (a + i) (by omega)⟩
theorem Reads.sub {w : World} {B off n : Nat} {k : IntKind} {f : Nat → Int} (h : Reads w B off n k f) (a m : Nat) (hm : a + m ≤ n) : Reads w B (off + a) m k (fun i => f (a + i)) :=
  fun i hi => by rw [Nat.add_assoc]; exact h (a + i) (by omega)

/-- from w to w' of what was there only cells in S have been written. -/
structure Fr (S : Nat → Nat → Prop) (w w' : World) : Prop where
  os : w'.os = w.os
  tape : w'.tape = w.tape
  output : w'.output = w.output
  size : w.heap.size ≤ w'.heap.size
  cells : ∀ b o, b < w.heap.size → ¬ S b o → w'.cell? ⟨b, o, none⟩ = w.cell? ⟨b, o, none⟩
  frozen : ∀ b o, b < w.heap.size → w'.frozen? ⟨b, o, none⟩ = w.frozen? ⟨b, o, none⟩
  block : ∀ b, b < w.heap.size → (∀ o, ¬ S b o) → w'.heap[b]? = w.heap[b]?

theorem Fr.refl (S : Nat → Nat → Prop) (w : World) : Fr S w w := ⟨rfl, rfl, rfl, Nat.le_refl _, fun _ _ _ _ => rfl, fun _ _ _ => rfl, fun _ _ _ => rfl⟩
theorem Fr.trans {S : Nat → Nat → Prop} {a b c : World} (h : Fr S a b) (k : Fr S b c) : Fr S a c :=
  ⟨k.os.trans h.os, k.tape.trans h.tape, k.output.trans h.output, Nat.le_trans h.size k.size,
    fun x o hx hs => (k.cells x o (Nat.lt_of_lt_of_le hx h.size) hs).trans (h.cells x o hx hs),
    fun x o hx => (k.frozen x o (Nat.lt_of_lt_of_le hx h.size)).trans (h.frozen x o hx),
    fun x hx hs => (k.block x (Nat.lt_of_lt_of_le hx h.size) hs).trans (h.block x hx hs)⟩
theorem Fr.mono {S T : Nat → Nat → Prop} {w w' : World} (h : Fr S w w') (hST : ∀ b o, b < w.heap.size → S b o → T b o) : Fr T w w' :=
  ⟨h.os, h.tape, h.output, h.size, fun b o hb hs => h.cells b o hb fun k => hs (hST b o hb k), h.frozen, fun b hb hs => h.block b hb fun o k => hs o (hST b o hb k)⟩
theorem Fr.of_below {S : Nat → Nat → Prop} {w w' : World} (h : Below w.heap.size w w') : Fr S w w' :=
  ⟨h.os, h.tape, h.output, h.size, fun b o hb _ => h.cell (p := ⟨b, o, none⟩) hb, fun b o hb => h.frozen (p := ⟨b, o, none⟩) hb, fun b hb _ => h.block b hb⟩
theorem Fr.below {S : Nat → Nat → Prop} {w w' : World} (h : Fr S w w') (B : Nat) (hB : B ≤ w.heap.size) (hs : ∀ b o, b < B → ¬ S b o) : Below B w w' :=
  ⟨h.os, h.tape, h.output, h.size, fun b hb => h.block b (Nat.lt_of_lt_of_le hb hB) fun o => hs b o hb⟩
theorem Fr.alloc {S : Nat → Nat → Prop} {w w' : World} (h : Fr S w w') (o : Obj) : Fr S w (w'.alloc o) :=
  h.trans (.of_below ((Below.refl _ _).alloc (Nat.le_refl _) o))
theorem Fr.drewN {S : Nat → Nat → Prop} {w w' : World} (h : Fr S w w') (n : Nat) : Fr S w (w'.drewN n) := h.trans ⟨rfl, rfl, rfl, Nat.le_refl _, fun _ _ _ _ => rfl, fun _ _ _ => rfl, fun _ _ _ => rfl⟩
theorem Fr.drew {S : Nat → Nat → Prop} {w w' : World} (h : Fr S w w') : Fr S w w'.drew := h.trans ⟨rfl, rfl, rfl, Nat.le_refl _, fun _ _ _ _ => rfl, fun _ _ _ => rfl, fun _ _ _ => rfl⟩
theorem Fr.set {S : Nat → Nat → Prop} (w : World) (B o : Nat) (v : Value) (hs : B < w.heap.size → S B o) : Fr S w (w.setCell ⟨B, o, none⟩ v) := by
  refine ⟨rfl, rfl, rfl, by simp [World.setCell], fun b x hb hn => ?_, fun b x _ => by rw [World.frozen?_setCell], fun b hb hn => ?_⟩
  · exact World.cell?_setCell_other _ _ _ _ (fun e => by injection e with e1 e2; subst e1 e2; exact hn (hs hb))
  · exact Below.heap_setCell _ _ _ _ (fun e => by subst e; exact hn o (hs hb))
theorem Fr.setCell {S : Nat → Nat → Prop} {w w' : World} (h : Fr S w w') (B o : Nat) (v : Value) (hs : B < w.heap.size → S B o) : Fr S w (w'.setCell ⟨B, o, none⟩ v) := by
  refine ⟨h.os, h.tape, h.output, by simp [World.setCell]; exact h.size, fun b x hb hn => ?_, fun b x hb => by rw [World.frozen?_setCell]; exact h.frozen b x hb, fun b hb hn => ?_⟩
  · rw [World.cell?_setCell_other _ _ _ _ (fun e => by injection e with e1 e2; subst e1 e2; exact hn (hs hb))]
    exact h.cells b x hb hn
  · rw [Below.heap_setCell _ _ _ _ (fun e => by subst e; exact hn o (hs hb))]
    exact h.block b hb hn
theorem Row.fr {S : Nat → Nat → Prop} {w w' : World} {B off n : Nat} {k : IntKind} {f : Nat → Int} (h : Row w B off n k f) (hf : Fr S w w') (hB : B < w.heap.size) (hs : ∀ i, i < n → ¬ S B (off + i)) : Row w' B off n k f :=
  ⟨fun i hi => (hf.cells _ _ hB (hs i hi)).trans (h.cell i hi), fun i hi => (hf.frozen _ _ hB).trans (h.free i hi)⟩
theorem Reads.fr {S : Nat → Nat → Prop} {w w' : World} {B off n : Nat} {k : IntKind} {f : Nat → Int} (h : Reads w B off n k f) (hf : Fr S w w') (hB : B < w.heap.size) (hs : ∀ i, i < n → ¬ S B (off + i)) : Reads w' B off n k f :=
  fun i hi => (hf.cells _ _ hB (hs i hi)).trans (h i hi)
/-- cells lo to hi - 1 of block B. -/
def At (B lo hi : Nat) (b o : Nat) : Prop := b = B ∧ lo ≤ o ∧ o < hi
/-- nothing. -/
def Nowhere (_ _ : Nat) : Prop := False
theorem Fr.nowhere {w w' : World} (h : Fr Nowhere w w') : Below w.heap.size w w' := h.below _ (Nat.le_refl _) fun _ _ _ k => k

/-- block B, known whole: cells of kind k that hold l. -/
def Blk (w : World) (B : Nat) (T : TypeId) (k : IntKind) (l : List Int) : Prop := w.heap[B]? = some (.cells (l.map (Value.int k)).toArray T (0, 0))
theorem Blk.cell {w : World} {B : Nat} {T : TypeId} {k : IntKind} {l : List Int} (h : Blk w B T k l) (i : Nat) (x : Int) (hx : l[i]? = some x) : w.cell? ⟨B, i, none⟩ = some (.int k x) := by
  unfold Blk at h
  simp [World.cell?, h, hx]
theorem Blk.free {w : World} {B : Nat} {T : TypeId} {k : IntKind} {l : List Int} (h : Blk w B T k l) (i : Nat) : w.frozen? ⟨B, i, none⟩ = false := by
  unfold Blk at h
  simp [World.frozen?, h]
theorem Blk.set {w : World} {B : Nat} {T : TypeId} {k : IntKind} {l : List Int} (h : Blk w B T k l) (i : Nat) (x : Int) : Blk (w.setCell ⟨B, i, none⟩ (.int k x)) B T k (l.set i x) := by
  unfold Blk at *
  rw [heap_setCell_same w B i _ T _ h]
  simp [List.map_set]
theorem Blk.other {w : World} {B : Nat} {T : TypeId} {k : IntKind} {l : List Int} (h : Blk w B T k l) {a : Addr} (ha : a.block ≠ B) (v : Value) : Blk (w.setCell a v) B T k l := by
  unfold Blk at *
  rw [Below.heap_setCell _ _ _ _ (fun e => ha e.symm)]; exact h
theorem Blk.drew {w : World} {B : Nat} {T : TypeId} {k : IntKind} {l : List Int} (h : Blk w B T k l) : Blk w.drew B T k l := h
theorem Blk.drewN {w : World} {B : Nat} {T : TypeId} {k : IntKind} {l : List Int} (h : Blk w B T k l) (n : Nat) : Blk (w.drewN n) B T k l := h
theorem Blk.lt {w : World} {B : Nat} {T : TypeId} {k : IntKind} {l : List Int} (h : Blk w B T k l) : B < w.heap.size := (Array.getElem?_eq_some_iff.1 h).1
theorem Blk.below {w w' : World} {B B0 : Nat} {T : TypeId} {k : IntKind} {l : List Int} (h : Blk w B T k l) (hb : Below B0 w w') (hB : B < B0) : Blk w' B T k l := by
  unfold Blk at *; rw [hb.block B hB]; exact h
theorem Blk.fr {w w' : World} {S : Nat → Nat → Prop} {B : Nat} {T : TypeId} {k : IntKind} {l : List Int} (h : Blk w B T k l) (hf : Fr S w w') (hs : ∀ o, ¬ S B o) : Blk w' B T k l := by
  have hl := h.lt
  unfold Blk at *; rw [hf.block B hl hs]; exact h
theorem Blk.row {w : World} {B : Nat} {T : TypeId} {k : IntKind} {l : List Int} (h : Blk w B T k l) (n : Nat) (f : Nat → Int) (hf : ∀ i, i < n → l[i]? = some (f i)) : Row w B 0 n k f :=
  ⟨fun i hi => by rw [Nat.zero_add]; exact h.cell i _ (hf i hi), fun i _ => by rw [Nat.zero_add]; exact h.free i⟩
theorem Blk.new (w : World) (T : TypeId) (k : IntKind) (l : List Int) : Blk (w.alloc (.cells (l.map (Value.int k)).toArray T)) w.heap.size T k l := by
  unfold Blk
  show (w.heap.push _)[w.heap.size]? = _
  rw [Array.getElem?_push, if_pos rfl]
end Go.Proofs.YtelikpkekloffaaDoor
