/- digest.Sum of this program, walked: the hash of n bytes. -/
import Derived.Test.YtelikpkekloffaaDoorDigB
import Derived.Deep.MidRow
namespace Go.Proofs.YtelikpkekloffaaDoor
open Go.RowKit

/-- 32 bytes as cells, as a value. -/
def c32 (g : Nat → Nat) : List Value := (List.range 32).map fun i => Value.int .u8 (g i : Int)
def d32 (g : Nat → Nat) : Value := .agg (c32 g).toArray
theorem c32_length (g : Nat → Nat) : (c32 g).length = 32 := by simp [c32]
theorem c32_get (g : Nat → Nat) (i : Nat) (h : i < 32) : (c32 g)[i]? = some (.int .u8 (g i : Int)) := by
  unfold c32; rw [List.getElem?_map, List.getElem?_range h]; rfl
theorem c32_one (g : Nat → Nat) : (c32 g).toArray.all (·.oneCell') = true := by
  refine all_oneCell_toArray fun v hv => ?_
  obtain ⟨i, _, rfl⟩ := List.mem_map.1 hv
  rfl
theorem c32_congr {g h : Nat → Nat} (e : ∀ i, i < 32 → g i = h i) : c32 g = c32 h := by
  unfold c32
  refine List.map_congr_left fun i hi => ?_
  rw [e i (List.mem_range.1 hi)]
theorem range32 {w : World} {B o : Nat} {g : Nat → Nat} (h : Reads w B o 32 .u8 (fun i => (g i : Int))) : w.rangeAt B o (c32 g) := fun j v hv => by
  have hj : j < 32 := by have := (List.getElem?_eq_some_iff.1 hv).1; rw [c32_length] at this; exact this
  rw [c32_get g j hj] at hv
  rw [h j hj]; exact hv
theorem there32 {w : World} {B o : Nat} {f : Nat → Int} (h : Row w B o 32 .u8 f) : w.there B o 32 := fun j hj => ⟨by rw [h.cell j hj]; rfl, h.free j hj⟩
theorem results_cell {P : Program} {fn : Func} {tmps : Array Value} {a t : Nat} {p : Addr} {v : Value} {w : World} (h : fn.results = #[.cell a t]) (hp : tmps.getD a undef = .pointer (some p)) (hl : (loadVar t p).run P w = .ok v w) : (results fn tmps).run P w = .ok v w := by
  rw [Array.getD_eq_getD_getElem?] at hp
  simp [results, h, hp, asAddr, hl]
theorem below_cells {B b : Nat} {a : World} (hb : B ≤ b) : ∀ (vs : List Value) (o : Nat) (w : World), Below B a w → Below B a (w.setCells b o vs)
  | [], _, _, h => h
  | v :: r, o, _, h => below_cells hb r (o + 1) _ (h.setCell (p := ⟨b, o, none⟩) hb v)
theorem Row.store {w : World} {B : Nat} {g : Nat → Nat} {f : Nat → Int} (h : Row w B 0 32 .u8 f) : Row (w.setCells B 0 (c32 g)) B 0 32 .u8 (fun i => (g i : Int)) := by
  have h1 := World.rangeAt_setCells_same w B 0 (c32 g) (by rw [c32_length]; exact there32 h)
  refine ⟨fun i hi => h1 i _ (c32_get g i hi), fun i hi => ?_⟩
  rw [World.frozen?_setCells]; exact h.free i hi

theorem alloc_size (w : World) (o : Obj) : (w.alloc o).heap.size = w.heap.size + 1 := Array.size_push ..
theorem row_list (w : World) (l : List Int) (T : TypeId) (n : Nat) (k : IntKind) (f : Nat → Int) (h : ∀ i, i < n → l[i]? = some (f i)) : Row (w.alloc (.cells (l.map (Value.int k)).toArray T)) w.heap.size 0 n k f :=
  row_new w _ T n k f fun i hi => by simp [h i hi]

theorem madeCells_one (z : Value) (n : Nat) : madeCells #[z] n = (List.replicate n z).toArray := by
  apply Array.ext
  · simp [madeCells]
  · intro i h1 h2
    simp [madeCells, Nat.mod_one]
theorem wpList_make_two {P : Program} (w : World) {ops : Array Oper} {rest : List Oper} {o : Oper} {a : Act} {Q : Exit → Act → World → Prop}
    (hg : o.guard = none) (l c : Operand) (t : TypeId) (hop : o.op = Op.makeSlice t l c)
    (e : TypeId) (z : Value) (bytes : Nat) (ht : P.underlying t = some (.slice e)) (hinfo : (P.info? e).map (fun i => (i.zero, i.size, i.bytes)) = some (some z, 1, bytes)) (hz1 : z.cells = #[z])
    (kl kc : IntKind) (n m : Nat) (hl : a.eval l = .int kl (n : Int)) (hc : a.eval c = .int kc (m : Int)) (hnm : n ≤ m) (hbytes : bytes * m ≤ 281474976710656) (h63 : m ≤ 9223372036854775807)
    (hK : ∀ w', Hid (w'.heap[w.heap.size]? = some (.cells (List.replicate m z).toArray e (0, 0)) ∧ Below w.heap.size w w' ∧ w'.heap.size = w.heap.size + 1) → wpList P ops Q rest (a.put o.dst (.slice (some ⟨w.heap.size, 0, none⟩) n m)) w') :
    wpList P ops Q (o :: rest) a w := by
  refine wpList_plain hg fun K hK' => ?_
  obtain ⟨i, hi, hzz⟩ := Option.map_eq_some_iff.1 hinfo
  simp only [Prod.mk.injEq] at hzz
  obtain ⟨hz, hs, hb⟩ := hzz
  have hb' : (i.bytes : Int) * (m : Int) ≤ 281474976710656 := by
    have h : ((i.bytes * m : Nat) : Int) ≤ 281474976710656 := by rw [hb]; omega
    rwa [Int.natCast_mul] at h
  have hrun := run_make (P := P) w t e i z ht hi hz kl kc n m (by omega) (by omega) hb' (by omega)
  simp only [Int.toNat_natCast, hs, Nat.mul_one, hz1, madeCells_one] at hrun
  unfold Oper.wp
  simp [execOp, hop, hl, hc, hrun, Result.andThen]
  refine hK' _ _ (hK _ (Lib.hid ⟨?_, (Below.refl _ _).alloc (Nat.le_refl _) _, alloc_size _ _⟩))
  show (w.heap.push _)[w.heap.size]? = _
  rw [Array.getElem?_push, if_pos rfl]
  simp

theorem row_cells {w : World} {B : Nat} {l : List Value} {T : TypeId} {k : IntKind} {n : Nat} {g : Nat → Int} (h : w.heap[B]? = some (.cells l.toArray T (0, 0))) (hl : ∀ i, i < n → l[i]? = some (.int k (g i))) : Row w B 0 n k g := by
  refine ⟨fun i hi => ?_, fun i _ => ?_⟩
  · rw [Nat.zero_add]; simp [World.cell?, h, hl i hi]
  · rw [Nat.zero_add]; simp [World.frozen?, h]
theorem splice_zero {α : Type} (L cs : List α) (i : Nat) : (splice L 0 cs)[i]? = if i < cs.length then cs[i]? else L[i]? := by
  unfold splice
  rw [List.take_zero, List.nil_append, List.getElem?_append]
  by_cases h : i < cs.length
  · rw [if_pos h, if_pos h]
  · rw [if_neg h, if_neg h, List.getElem?_drop]; congr 1; omega

theorem Fr.then {S : Nat → Nat → Prop} {a b c : World} {B : Nat} (h : Fr S a b) (k : Below B b c) (hB : a.heap.size ≤ B) : Fr S a c :=
  ⟨k.os.trans h.os, k.tape.trans h.tape, k.output.trans h.output, Nat.le_trans h.size k.size,
    fun x o hx hs => (k.cell (p := ⟨x, o, none⟩) (Nat.lt_of_lt_of_le hx hB)).trans (h.cells x o hx hs),
    fun x o hx => (k.frozen (p := ⟨x, o, none⟩) (Nat.lt_of_lt_of_le hx hB)).trans (h.frozen x o hx),
    fun x hx hs => (k.block x (Nat.lt_of_lt_of_le hx hB)).trans (h.block x hx hs)⟩

/-- what the hash function reads of the package's variables. -/
structure Tabs (w : World) : Prop where
  start : Reads w 0 0 8 .u32 (fun i => (Sha.iv.get i : Int))
  numbers : Reads w 3 0 64 .u32 (fun i => (Sha.kk i : Int))
  size : 4 ≤ w.heap.size
theorem Tabs.below {w w' : World} (h : Tabs w) (hb : Below w.heap.size w w') : Tabs w' :=
  ⟨h.start.below hb (by have := h.size; omega), h.numbers.below hb (by have := h.size; omega), Nat.le_trans h.size hb.size⟩

/-- a slice of n bytes that hold f, or of none. -/
structure Bytes (w : World) (p : Option Addr) (n cap : Nat) (f : Nat → Nat) : Prop where
  lies : 0 < n → ∃ B off, p = some ⟨B, off, none⟩ ∧ B < w.heap.size ∧ Reads w B off n .u8 (fun i => (f i : Int))
  byte : ∀ i, i < n → f i < 256
  le : n ≤ cap
  nil : p = none → cap = 0

theorem st_step (n : Nat) (f a : Nat → Nat) (J : Nat) (h : ∀ q, a q = Sha.pad n f (64 * J + q)) : Sha.blk Sha.kk (fun t => Sha.be4 a (4 * t)) (Sha.st n f J) = Sha.st n f (J + 1) := by
  show _ = Sha.blk Sha.kk (fun t => Sha.be4 (Sha.pad n f) (64 * J + 4 * t)) (Sha.st n f J)
  refine Sha.blk_congr _ fun t _ => ?_
  unfold Sha.be4
  rw [h, h, h, h]
  rfl
theorem index8 (x0 x1 x2 x3 x4 x5 x6 x7 : Int) (w : World) (i : Nat) (h : i < 8) (v : Int) (hv : [x0, x1, x2, x3, x4, x5, x6, x7][i]? = some v) : Sem.run Tryd.prog (Instr.index 103 (.agg #[.int .u32 x0, .int .u32 x1, .int .u32 x2, .int .u32 x3, .int .u32 x4, .int .u32 x5, .int .u32 x6, .int .u32 x7]) (.int .i64 i)) w = .ok (.int .u32 v) w := by
  match i, h, hv with
  | 0, _, hv => cases hv; show _ = _; kernel_rfl
  | 1, _, hv => cases hv; show _ = _; kernel_rfl
  | 2, _, hv => cases hv; show _ = _; kernel_rfl
  | 3, _, hv => cases hv; show _ = _; kernel_rfl
  | 4, _, hv => cases hv; show _ = _; kernel_rfl
  | 5, _, hv => cases hv; show _ = _; kernel_rfl
  | 6, _, hv => cases hv; show _ = _; kernel_rfl
  | 7, _, hv => cases hv; show _ = _; kernel_rfl
theorem cut4 (B : Nat) (w : World) (i : Nat) (h : i < 8) : Sem.run Tryd.prog (Instr.sliceAt 44 (.pointer (some ⟨B, 0, none⟩)) (some (.int .i64 (4 * (i : Int)))) (some (.int .i64 (4 * (i : Int) + 4))) none) w = .ok (.slice (some ⟨B, 4 * i, none⟩) 4 (32 - 4 * i)) w := by
  match i, h with
  | 0, _ => show _ = _; kernel_rfl
  | 1, _ => show _ = _; kernel_rfl
  | 2, _ => show _ = _; kernel_rfl
  | 3, _ => show _ = _; kernel_rfl
  | 4, _ => show _ = _; kernel_rfl
  | 5, _ => show _ = _; kernel_rfl
  | 6, _ => show _ = _; kernel_rfl
  | 7, _ => show _ = _; kernel_rfl
theorem pad_rows (n j r k Be : Nat) (f : Nat → Nat) (hj : 64 * j + r = n) (hn : n ≤ 281474976710656) (hk : k = 1 ∧ r ≤ 55 ∨ k = 2 ∧ 56 ≤ r) (hr : r ≤ 63) (w4 w5 : World)
    (hR4 : Row w4 Be 0 128 .u8 (fun i => if i = r then 128 else if i < r then ((f (64 * j + i) : Nat) : Int) else 0)) (hF5 : Fr (At Be (64 * k - 8) (64 * k - 8 + 8)) w4 w5)
    (hR5 : Row w5 Be (64 * k - 8) 8 .u8 (fun i => ((n * 8 / 2 ^ (8 * (8 - 1 - i)) % 256 : Nat) : Int))) (hlt : Be < w4.heap.size) : Reads w5 Be 0 (64 * k) .u8 (fun i => ((Sha.pad n f (64 * j + i) : Nat) : Int)) := by
  intro i hi
  have hnb : Sha.nb n = j + k := by unfold Sha.nb; omega
  rw [Nat.zero_add]
  by_cases h8 : i < 64 * k - 8
  · have h1 := hR4.cell i (by omega)
    rw [Nat.zero_add] at h1
    rw [hF5.cells Be i hlt (fun k => by have := k.2.1; omega), h1]
    show some (Value.int .u8 (if i = r then 128 else if i < r then ((f (64 * j + i) : Nat) : Int) else 0)) = some (Value.int .u8 ((Sha.pad n f (64 * j + i) : Nat) : Int))
    unfold Sha.pad
    rw [hnb]
    by_cases e1 : i < r
    · rw [if_neg (by omega), if_pos e1, if_pos (by omega)]
    · by_cases e2 : i = r
      · rw [if_pos e2, if_neg (by omega), if_pos (by omega)]; rfl
      · rw [if_neg e2, if_neg e1, if_neg (by omega), if_neg (by omega), if_pos (by omega)]; rfl
  · have h1 := hR5.cell (i - (64 * k - 8)) (by omega)
    rw [show 64 * k - 8 + (i - (64 * k - 8)) = i by omega] at h1
    rw [h1]
    show some (Value.int .u8 ((n * 8 / 2 ^ (8 * (8 - 1 - (i - (64 * k - 8)))) % 256 : Nat) : Int)) = some (Value.int .u8 ((Sha.pad n f (64 * j + i) : Nat) : Int))
    unfold Sha.pad
    rw [hnb, if_neg (by omega), if_neg (by omega), if_neg (by omega), show 8 * n % 18446744073709551616 = n * 8 by omega, show 64 * (j + k) - 1 - (64 * j + i) = 8 - 1 - (i - (64 * k - 8)) by omega]

set_option maxRecDepth 100000 in
set_option maxHeartbeats 4000000 in
theorem sum_any (p : Option Addr) (n cap : Nat) (f : Nat → Nat) (w : World) (hT : Tabs w) (hb : Bytes w p n cap f) (hn : n ≤ 281474976710656) (hcap : cap ≤ 9223372036854775807) :
    Calls Tryd.prog 75 #[.slice p n cap] w fun e w' => e = .returned (d32 (Sha.sum n f)) ∧ Below w.heap.size w w' := by
  have HT := Lib.hid hT
  have HB := Lib.hid hb
  have c0 : w.cell? ⟨0, 0, none⟩ = some (.int .u32 1779033703) := hT.start 0 (by decide)
  have c1 : w.cell? ⟨0, 1, none⟩ = some (.int .u32 3144134277) := hT.start 1 (by decide)
  have c2 : w.cell? ⟨0, 2, none⟩ = some (.int .u32 1013904242) := hT.start 2 (by decide)
  have c3 : w.cell? ⟨0, 3, none⟩ = some (.int .u32 2773480762) := hT.start 3 (by decide)
  have c4 : w.cell? ⟨0, 4, none⟩ = some (.int .u32 1359893119) := hT.start 4 (by decide)
  have c5 : w.cell? ⟨0, 5, none⟩ = some (.int .u32 2600822924) := hT.start 5 (by decide)
  have c6 : w.cell? ⟨0, 6, none⟩ = some (.int .u32 528734635) := hT.start 6 (by decide)
  have c7 : w.cell? ⟨0, 7, none⟩ = some (.int .u32 1541459225) := hT.start 7 (by decide)
  have hz0 : 0 < w.heap.size := by have := hT.size; omega
  have hz : Hid (4 ≤ w.heap.size) := Lib.hid hT.size
  have b1 : (n : Int) ≤ 281474976710656 := by omega
  have b2 : (cap : Int) ≤ 9223372036854775807 := by omega
  have b3 : (n : Int) ≤ cap := by have := hb.le; omega
  clear hT hb hn hcap
  go_enter Tryd.func75, Tryd.ntmps75
  go_wp2_with fail
  obtain ⟨W2, hW2⟩ : ∃ W2 : World, W2 = (w.alloc (.cells #[.int .u8 0, .int .u8 0, .int .u8 0, .int .u8 0, .int .u8 0, .int .u8 0, .int .u8 0, .int .u8 0, .int .u8 0, .int .u8 0, .int .u8 0, .int .u8 0, .int .u8 0, .int .u8 0, .int .u8 0, .int .u8 0, .int .u8 0, .int .u8 0, .int .u8 0, .int .u8 0, .int .u8 0, .int .u8 0, .int .u8 0, .int .u8 0, .int .u8 0, .int .u8 0, .int .u8 0, .int .u8 0, .int .u8 0, .int .u8 0, .int .u8 0, .int .u8 0] 44)).alloc (.cells #[.int .u32 1779033703, .int .u32 3144134277, .int .u32 1013904242, .int .u32 2773480762, .int .u32 1359893119, .int .u32 2600822924, .int .u32 528734635, .int .u32 1541459225] 103) := ⟨_, rfl⟩
  rw [← hW2]
  have hS0 : W2.heap.size = w.heap.size + 2 := by rw [hW2, alloc_size, alloc_size]
  have hB0 : Below w.heap.size w W2 := by rw [hW2]; exact ((Below.refl _ _).alloc (Nat.le_refl _) _).alloc (by rw [alloc_size]; omega) _
  have hD0 : Row W2 w.heap.size 0 32 .u8 (fun _ => 0) := by
    rw [hW2]
    refine Row.alloc (row_list w (List.replicate 32 0) _ 32 .u8 _ fun i hi => ?_) (by rw [alloc_size]; omega) _
    have all : ∀ j : Fin 32, (List.replicate 32 (0 : Int))[j.val]? = some 0 := by decide +kernel
    exact all ⟨i, hi⟩
  have hR0 : Row W2 (w.heap.size + 1) 0 8 .u32 (fun i => (Sha.iv.get i : Int)) := by
    rw [hW2]
    have h := row_list (w.alloc (.cells ((List.replicate 32 0).map (Value.int .u8)).toArray 44)) [1779033703, 3144134277, 1013904242, 2773480762, 1359893119, 2600822924, 528734635, 1541459225] 103 8 .u32 (fun i => (Sha.iv.get i : Int)) (fun i hi => by
      have all : ∀ j : Fin 8, ([1779033703, 3144134277, 1013904242, 2773480762, 1359893119, 2600822924, 528734635, 1541459225] : List Int)[j.val]? = some (Sha.iv.get j.val : Int) := by decide +kernel
      exact all ⟨i, hi⟩)
    rw [alloc_size] at h
    exact h
  clear hW2
  have HS0 := Lib.hid hS0
  have HZ := hz
  have HT2 := Lib.hid (HT.out.below hB0)
  have HB2 : Hid (0 < n → ∃ B off, p = some ⟨B, off, none⟩ ∧ B < w.heap.size ∧ Reads W2 B off n .u8 (fun i => (f i : Int))) := Lib.hid fun h => by
    obtain ⟨B, off, h1, h2, h3⟩ := HB.out.lies h
    exact ⟨B, off, h1, h2, h3.below hB0 h2⟩
  have HBy : Hid (∀ i, i < n → f i < 256) := Lib.hid HB.out.byte
  have HW := Lib.hid hB0
  have HD := Lib.hid hD0
  have HR := Lib.hid hR0
  clear hS0 hz hz0 hD0 hR0 hB0 c0 c1 c2 c3 c4 c5 c6 c7
  generalize hBd : w.heap.size = Bd at *
  go_loopg [5] n (fun m x wr => ∃ (j r c : Nat) (p' : Option Addr), x = .slice p' r c ∧ Hid (64 * j + r = n ∧ r = m) ∧ Hid (r ≤ c ∧ c ≤ cap) ∧ Hid (0 < r → ∃ B off, p' = some ⟨B, off, none⟩ ∧ B < Bd ∧ Reads W2 B off r .u8 (fun i => (f (64 * j + i) : Int))) ∧
    Hid (Fr (At (Bd + 1) 0 8) W2 wr) ∧ Hid (Row wr (Bd + 1) 0 8 .u32 (fun i => ((Sha.st n f j).get i : Int))))
  case atStart =>
    refine ⟨0, n, cap, p, rfl, Lib.hid ⟨by omega, rfl⟩, Lib.hid ⟨by omega, Nat.le_refl _⟩, Lib.hid fun h => ?_, Lib.hid (Fr.refl _ _), HR⟩
    obtain ⟨B, off, h1, h2, h3⟩ := HB2.out h
    exact ⟨B, off, h1, h2, h3.congr fun i _ => by rw [Nat.mul_zero, Nat.zero_add]⟩
  case round =>
    obtain ⟨j, r, c, p', rfl, hj, hc, hp, hF, hV⟩ := hrel
    by_cases h : 64 ≤ r
    · obtain ⟨B, off, rfl, hBB, hRd⟩ := hp.out (by omega)
      have t1 : decide ((64 : Int) ≤ (r : Int)) = true := by rw [decide_eq_true_eq]; omega
      have t2 : decide ((r : Int) < 64) = false := by rw [decide_eq_false_iff_not]; omega
      have b4 : (64 : Int) ≤ r := by omega
      have b5 : (r : Int) ≤ c := by have := hc.out; omega
      have b6 : (c : Int) ≤ 9223372036854775807 := by have := hc.out; omega
      have hl := HS0.out
      have hz := HZ.out
      have hbb : B < W2.heap.size := by omega
      have hgk : 3 < W2.heap.size := by have := HT2.out.size; omega
      have hRw : Reads wr B off 64 .u8 (fun i => ((Sha.pad n f (64 * j + i) : Nat) : Int)) := by
        intro i hi
        have h1 := (hRd.fr hF.out hbb (fun i _ k => by have := k.1; omega)) i (by omega)
        rw [h1]
        have := hj.out
        show some (Value.int .u8 ((f (64 * j + i) : Nat) : Int)) = some (Value.int .u8 ((Sha.pad n f (64 * j + i) : Nat) : Int))
        rw [show Sha.pad n f (64 * j + i) = f (64 * j + i) by unfold Sha.pad; rw [if_pos (by omega)]]
      have hC := absorb_any (Bd + 1) B off c (Sha.st n f j) (Sha.st_ok n f j) (fun i => Sha.pad n f (64 * j + i)) (fun i => Sha.pad_lt HBy.out _) (by omega) wr hV.out hRw
        (HT2.out.numbers.fr hF.out hgk (fun i _ k => by have := k.1; omega)) (by have := hF.out.size; omega) (by have := hF.out.size; omega) (by have := hF.out.size; omega)
      have hC' := Lib.hid hC
      clear hC hRw hgk hbb hl hz
      have hRR := Lib.hid hRd
      clear hRd
      go_wp2_with fail
      refine hC'.out.mono ?_
      rintro e w1 ⟨rfl, hF1, hV1⟩
      go_wp2_with fail
      all_goals
        go_roundg (r - 64)
        case rel =>
          have hle := hc.out
          refine ⟨j + 1, r - 64, _, _, rfl, Lib.hid ⟨by have := hj.out; omega, rfl⟩, Lib.hid ⟨by omega, by omega⟩, Lib.hid fun h0 => ?_, Lib.hid (hF.out.trans hF1), Lib.hid hV1⟩
          first
            | exact ⟨B, off + 64, rfl, hBB, (hRR.out.sub 64 (r - 64) (by omega)).congr fun i _ => by rw [show 64 * (j + 1) + i = 64 * j + (64 + i) by omega]⟩
            | (exfalso; omega)
        case measure => have := hj.out; omega
    · have t1 : decide ((64 : Int) ≤ (r : Int)) = false := by rw [decide_eq_false_iff_not]; omega
      have t2 : decide ((r : Int) < 64) = true := by rw [decide_eq_true_eq]; omega
      have b4 : (r : Int) ≤ 63 := by omega
      have b5 : (r : Int) ≤ c := by have := hc.out; omega
      have b6 : (c : Int) ≤ 9223372036854775807 := by have := hc.out; omega
      have hsw : Bd + 1 < wr.heap.size := by have := hF.out.size; have := HS0.out; omega
      obtain ⟨Be, hBe⟩ : ∃ Be, Be = wr.heap.size := ⟨_, rfl⟩
      have HBe := Lib.hid hBe
      have HSW := Lib.hid hsw
      clear hBe hsw
      go_upto_region 8 with (refine wpList_make_two _ rfl (.const (.int .i64 64)) (.const (.int .i64 128)) 33 rfl 5 (.int .u8 0) 1 Tryd.underlying33 (by kernel_rfl) rfl .i64 .i64 64 128 rfl rfl (by decide) (by decide) (by decide) ?_; intro w2 hw2)
      have hF2 := Lib.hid (hF.out.trans (.of_below hw2.out.2.1))
      have hV2 := Lib.hid (hV.out.below hw2.out.2.1 (by have := HBe.out; have := HSW.out; omega))
      have hbe := hw2.out.1
      have hbs := hw2.out.2.2
      rw [← HBe.out] at hbe hbs
      replace hbe := Lib.hid hbe
      replace hbs := Lib.hid hbs
      rw [← HBe.out]
      clear hF hV hw2
      obtain ⟨cs, hcs⟩ : ∃ cs : List Value, cs = (List.range r).map fun i => Value.int .u8 ((f (64 * j + i) : Nat) : Int) := ⟨_, rfl⟩
      have hcl : cs.length = r := by rw [hcs]; simp
      have hsrc : 0 < cs.length → (some ⟨Be, 0, none⟩ : Option Addr) = some ⟨Be, 0, none⟩ ∧ ∃ ad, p' = some ad ∧ ∀ j v, cs[j]? = some v → w2.cell? (ad.add j) = some v := fun h0 => by
        obtain ⟨B, off, rfl, hBB, hRd⟩ := hp.out (by omega)
        refine ⟨rfl, ⟨B, off, none⟩, rfl, fun i v hi => ?_⟩
        have hir : i < r := by have := (List.getElem?_eq_some_iff.1 hi).1; omega
        have hl := HS0.out
        have h1 := (hRd.fr hF2.out (by omega) (fun i _ k => by have := k.1; omega)) i hir
        rw [hcs, List.getElem?_map, List.getElem?_range hir] at hi
        rw [show (⟨B, off, none⟩ : Addr).add i = ⟨B, off + i, none⟩ by simp [Addr.add], h1]; exact hi
      have hone : ∀ v ∈ cs, v.oneCell' = true := fun v hv => by
        rw [hcs] at hv
        obtain ⟨i, _, rfl⟩ := List.mem_map.1 hv
        rfl
      replace hsrc := Lib.hid hsrc
      replace hone := Lib.hid hone
      have hmin : cs.length = Nat.min r 64 := by rw [hcl]; exact (Nat.min_eq_left (by omega)).symm
      have hfit : 0 + cs.length ≤ (List.replicate 128 (Value.int .u8 0)).length := by rw [hcl]; simp; omega
      replace hmin := Lib.hid hmin
      replace hfit := Lib.hid hfit
      replace hcs := Lib.hid hcs
      replace hcl := Lib.hid hcl
      go_upto_region 9 with (refine wpList_copy_splice rfl (.tmp 22) (.tmp 23) 33 33 rfl 5 Tryd.underlying33 (by kernel_rfl) (some ⟨Be, 0, none⟩) p' 64 128 r c rfl rfl Be 0 (List.replicate 128 (.int .u8 0)) 5 hbe.out cs hmin.out hsrc.out hfit.out hone.out Be w2 (Below.refl _ _) (Nat.le_refl _) ?_; intro w3 hw3 hb3)
      have hR3 : Row w3 Be 0 128 .u8 (fun i => if i < r then ((f (64 * j + i) : Nat) : Int) else 0) := by
        refine row_cells hw3.out fun i hi => ?_
        rw [splice_zero, hcl.out]
        by_cases h : i < r
        · rw [if_pos h, if_pos h, hcs.out, List.getElem?_map, List.getElem?_range h]; rfl
        · rw [if_neg h, if_neg h, List.getElem?_replicate, if_pos hi]
      have hBd : Bd + 1 < Be := by have := HBe.out; have := HSW.out; omega
      have hF3 := Lib.hid (hF2.out.then hb3 (by have := HS0.out; omega))
      have hV3 := Lib.hid (hV2.out.below hb3 hBd)
      have hs3 : Hid (w3.heap.size = w3.heap.size ∧ Be < w3.heap.size) := Lib.hid ⟨rfl, by have := hb3.size; have := hbs.out; omega⟩
      have cr := hR3.cell r (by omega)
      have zr := hR3.free r (by omega)
      rw [Nat.zero_add] at cr zr
      have h1 := hR3.set (i := r) (by omega) 128
      rw [Nat.zero_add] at h1
      have hR4 := Lib.hid h1
      have hF4 := Lib.hid (hF3.out.setCell Be r (.int .u8 128) (fun h => by have := HS0.out; omega))
      have hV4 := Lib.hid (hV3.out.other (a := ⟨Be, r, none⟩) (by show Be ≠ _; omega) (.int .u8 128))
      have hs4 : Hid (Be < (w3.setCell ⟨Be, r, none⟩ (.int .u8 128)).heap.size) := Lib.hid (by simp [World.setCell]; exact hs3.out.2)
      have HBd := Lib.hid hBd
      clear h1 hR3 hBd hF2 hV2 hF3 hV3 hs3 hw3 hb3 hbe hbs hmin hfit hsrc hone hcs
      generalize hw4 : w3.setCell ⟨Be, r, none⟩ (.int .u8 128) = w4 at *
      obtain ⟨k, hk⟩ : ∃ k, k = 1 ∧ r ≤ 55 ∨ k = 2 ∧ 56 ≤ r := by
        by_cases h : r ≤ 55
        · exact ⟨1, .inl ⟨rfl, h⟩⟩
        · exact ⟨2, .inr ⟨rfl, by omega⟩⟩
      have hnb : Sha.nb n = j + k := by have := hj.out; unfold Sha.nb; omega
      have HNB := Lib.hid hnb
      have hP := put_any Be (64 * k - 8) 8 (128 - (64 * k - 8)) (n * 8) _ (by decide) (by omega) w4 (by have h1 := hR4.out.sub (64 * k - 8) 8 (by omega); rw [Nat.zero_add] at h1; exact h1)
      rw [show ((n * 8 : Nat) : Int) = (n : Int) * 8 by push_cast; rfl] at hP
      have HP := Lib.hid hP
      have hN : Hid (n ≤ 281474976710656) := Lib.hid (by omega)
      clear hnb hP
      have HK := Lib.hid hk
      have HR63 : Hid (r ≤ 63) := Lib.hid (by omega)
      have HPAD : Hid (∀ w5, Fr (At Be (64 * k - 8) (64 * k - 8 + 8)) w4 w5 → Row w5 Be (64 * k - 8) 8 .u8 (fun i => ((n * 8 / 2 ^ (8 * (8 - 1 - i)) % 256 : Nat) : Int)) →
          Reads w5 Be 0 (64 * k) .u8 (fun i => ((Sha.pad n f (64 * j + i) : Nat) : Int)) ∧ Fr (At (Bd + 1) 0 8) W2 w5 ∧ Row w5 (Bd + 1) 0 8 .u32 (fun i => ((Sha.st n f j).get i : Int)) ∧ Be < w5.heap.size) := Lib.hid fun w5 hF5 hR5 => by
        have hb := hF5.below (Bd + 2) (by have := hs4.out; have := HBd.out; omega) (fun b o hb k => by have := k.1; have := HBd.out; omega)
        exact ⟨pad_rows n j r k Be f hj.out.1 hN.out HK.out HR63.out w4 w5 hR4.out hF5 hR5 hs4.out, hF4.out.then hb (by rw [HS0.out]; exact Nat.le_refl _), hV4.out.below hb (by omega), Nat.lt_of_lt_of_le hs4.out hF5.size⟩
      clear h
      rcases hk with ⟨rfl, hk⟩ | ⟨rfl, hk⟩
      · have t3 : decide ((55 : Int) < (r : Int)) = false := by rw [decide_eq_false_iff_not]; omega
        have HH := Lib.hid hk
        clear hk
        go_wp2_with fail
        refine HP.out.mono ?_
        rintro e w5 ⟨rfl, hF5, hR5⟩
        have hA := Lib.hid (HPAD.out w5 hF5 hR5)
        clear HPAD HP hF5 hR5 hR4 hF4 hV4 hs4 hcl HK
        go_wp2_with fail
        go_loopg [6] 1 (fun g x wr => ∃ (i l c off : Nat), x = .slice (some ⟨Be, off, none⟩) l c ∧ Hid (i + g = 1 ∧ l = 64 * g) ∧ Hid (c + 64 * i = 128 ∧ (0 < l → off = 64 * i)) ∧
          Hid (Fr (At (Bd + 1) 0 8) W2 wr) ∧ Hid (Row wr (Bd + 1) 0 8 .u32 (fun q => ((Sha.st n f (j + i)).get q : Int))) ∧ Hid (Reads wr Be 0 (64 * 1) .u8 (fun i => ((Sha.pad n f (64 * j + i) : Nat) : Int))) ∧ Hid (Be < wr.heap.size))
        case atStart => exact ⟨0, 64 * 1, 128, 0, rfl, Lib.hid ⟨by omega, by omega⟩, Lib.hid ⟨by omega, fun _ => rfl⟩, Lib.hid hA.out.2.1, Lib.hid hA.out.2.2.1, Lib.hid hA.out.1, Lib.hid hA.out.2.2.2⟩
        case round =>
          clear hA
          obtain ⟨i, l, c, off, rfl, hi, hc, hF, hV, hE, hs⟩ := hrel
          by_cases h : 0 < l
          · obtain rfl := hc.out.2 h
            have t4 : decide ((0 : Int) < (l : Int)) = true := by rw [decide_eq_true_eq]; omega
            have t4' : decide (0 < l) = true := by rw [decide_eq_true_eq]; omega
            have b4 : (64 : Int) ≤ l := by have := hi.out; omega
            have b4' : 64 ≤ l := by have := hi.out; omega
            have b5 : (l : Int) ≤ c := by have := hi.out; have := hc.out; omega
            have b5' : l ≤ c := by have := hi.out; have := hc.out; omega
            have b6 : (c : Int) ≤ 128 := by have := hc.out; omega
            have b7 : (64 : Int) ≤ c := by omega
            have hgk : 3 < W2.heap.size := by have := HT2.out.size; omega
            have hC := absorb_any (Bd + 1) Be (64 * i) c (Sha.st n f (j + i)) (Sha.st_ok n f _) (fun q => Sha.pad n f (64 * j + (64 * i + q))) (fun q => Sha.pad_lt HBy.out _) (by omega) wr hV.out
              (by have h1 := hE.out.sub (64 * i) 64 (by have := hi.out; omega); rw [Nat.zero_add] at h1; exact h1)
              (HT2.out.numbers.fr hF.out hgk (fun i _ k => by have := k.1; have := HZ.out; omega)) (by have := hF.out.size; have := HS0.out; omega) hs.out (by have := hF.out.size; omega)
            have hC' := Lib.hid hC
            clear hC hgk h
            go_wp2_with fail
            refine hC'.out.mono ?_
            rintro e w1 ⟨rfl, hF1, hV1⟩
            go_wp2_with fail
            all_goals
              go_roundg (1 - (i + 1))
              case rel =>
                refine ⟨i + 1, l - 64, _, _, rfl, Lib.hid ⟨by have := hi.out; omega, by have := hi.out; omega⟩, Lib.hid ⟨by have := hc.out; omega, fun _ => by first | omega | (exfalso; have := hi.out; omega)⟩, Lib.hid (hF.out.trans hF1), Lib.hid ?_,
                  Lib.hid (hE.out.fr hF1 hs.out (fun _ _ k => by have := k.1; have := HBd.out; omega)), Lib.hid (Nat.lt_of_lt_of_le hs.out hF1.size)⟩
                rw [st_step n f _ (j + i) (fun q => by rw [show 64 * (j + i) + q = 64 * j + (64 * i + q) by omega])] at hV1
                exact hV1
              case measure => have := hi.out; omega
          · have t4 : decide ((0 : Int) < (l : Int)) = false := by rw [decide_eq_false_iff_not]; omega
            have t4' : decide (0 < l) = false := by rw [decide_eq_false_iff_not]; omega
            obtain rfl : l = 0 := by omega
            obtain rfl : i = 1 := by have := hi.out; omega
            rw [← HNB.out] at hV
            obtain ⟨S, hS⟩ : ∃ S, S = Sha.st n f (Sha.nb n) := ⟨_, rfl⟩
            rw [← hS] at hV
            have hSok : S.ok := by rw [hS]; exact Sha.st_ok n f _
            have HS := Lib.hid hS
            have HSok := Lib.hid hSok
            clear hS hSok h hi hc
            have c0 : wr.cell? ⟨Bd + 1, 0, none⟩ = some (.int .u32 (S.get 0 : Int)) := hV.out.cell 0 (by decide)
            have c1 : wr.cell? ⟨Bd + 1, 1, none⟩ = some (.int .u32 (S.get 1 : Int)) := hV.out.cell 1 (by decide)
            have c2 : wr.cell? ⟨Bd + 1, 2, none⟩ = some (.int .u32 (S.get 2 : Int)) := hV.out.cell 2 (by decide)
            have c3 : wr.cell? ⟨Bd + 1, 3, none⟩ = some (.int .u32 (S.get 3 : Int)) := hV.out.cell 3 (by decide)
            have c4 : wr.cell? ⟨Bd + 1, 4, none⟩ = some (.int .u32 (S.get 4 : Int)) := hV.out.cell 4 (by decide)
            have c5 : wr.cell? ⟨Bd + 1, 5, none⟩ = some (.int .u32 (S.get 5 : Int)) := hV.out.cell 5 (by decide)
            have c6 : wr.cell? ⟨Bd + 1, 6, none⟩ = some (.int .u32 (S.get 6 : Int)) := hV.out.cell 6 (by decide)
            have c7 : wr.cell? ⟨Bd + 1, 7, none⟩ = some (.int .u32 (S.get 7 : Int)) := hV.out.cell 7 (by decide)
            have HD2 := Lib.hid (HD.out.fr hF.out (by have := HS0.out; omega) (fun _ _ k => by have := k.1; omega))
            clear hs hE
            go_wp2_with fail
            go_loopg [54] 8 (fun g x wr => ∃ (i : Nat), x = .int .i64 i ∧ Hid (i + g = 8) ∧ Hid (Below Bd w wr) ∧ Hid (Row wr Bd 0 32 .u8 (fun q => if q < 4 * i then ((Sha.sum n f q : Nat) : Int) else 0)) ∧ Hid (Bd < wr.heap.size))
            case atStart =>
              refine ⟨0, rfl, Lib.hid rfl, Lib.hid (HW.out.trans (hF.out.below Bd (by have := HS0.out; omega) (fun b o hb k => by have := k.1; omega))), Lib.hid (HD2.out.congr fun q _ => by rw [if_neg (by omega)]), Lib.hid (by have := hF.out.size; have := HS0.out; omega)⟩
            case round =>
              clear hF hV HD2 c0 c1 c2 c3 c4 c5 c6 c7
              obtain ⟨i, rfl, hi, hF, hD, hs⟩ := hrel
              by_cases h : i < 8
              · have t5 : decide ((i : Int) < 8) = true := by rw [decide_eq_true_eq]; omega
                have t5' : decide (i < 8) = true := by rw [decide_eq_true_eq]; omega
                have b4 : (i : Int) ≤ 7 := by omega
                have hix := index8 (S.get 0) (S.get 1) (S.get 2) (S.get 3) (S.get 4) (S.get 5) (S.get 6) (S.get 7) wr i h (S.get i) (s8_list S i h)
                have hct := cut4 Bd wr i h
                obtain ⟨v, hv⟩ : ∃ v, v = S.get i := ⟨_, rfl⟩
                rw [← hv] at hix
                have hvl : v < 4294967296 := by rw [hv]; exact Sha.S8.get_lt HSok.out i
                have b5 : (v : Int) < 4294967296 := by omega
                have hP := put_any Bd (4 * i) 4 (32 - 4 * i) v _ (by decide) (by omega) wr (by have h1 := hD.out.sub (4 * i) 4 (by omega); rw [Nat.zero_add] at h1; exact h1)
                have HV := Lib.hid hv
                have HP2 := Lib.hid hP
                have H8 := Lib.hid h
                clear hv hvl hP h
                go_wp2_with fail
                refine HP2.out.mono ?_
                rintro e w1 ⟨rfl, hF1, hR1⟩
                go_wp2_with fail
                go_roundg (8 - (i + 1))
                case rel =>
                  refine ⟨i + 1, by go_num, Lib.hid (by have := hi.out; have := H8.out; omega), Lib.hid (hF.out.trans (hF1.below Bd (by have := hs.out; omega) (fun b o hb k => by have := k.1; omega))), Lib.hid ⟨fun q hq => ?_, fun q hq => ?_⟩, Lib.hid (Nat.lt_of_lt_of_le hs.out hF1.size)⟩
                  · rw [Nat.zero_add]
                    by_cases e : 4 * i ≤ q ∧ q < 4 * i + 4
                    · have h1 := hR1.cell (q - 4 * i) (by omega)
                      rw [show 4 * i + (q - 4 * i) = q by omega] at h1
                      rw [h1, if_pos (by omega), HV.out, HS.out]
                      unfold Sha.sum
                      rw [show q / 4 = i by omega, show 8 * (4 - 1 - (q - 4 * i)) = 24 - 8 * (q % 4) by omega]
                    · have h1 := hD.out.cell q hq
                      rw [Nat.zero_add] at h1
                      rw [hF1.cells Bd q hs.out (fun k => e k.2), h1]
                      by_cases e' : q < 4 * i
                      · rw [if_pos e', if_pos (by omega)]
                      · rw [if_neg e', if_neg (by omega)]
                  · rw [Nat.zero_add, hF1.frozen Bd q hs.out]
                    have h1 := hD.out.free q hq
                    rw [Nat.zero_add] at h1
                    exact h1
                case measure => have := hi.out; have := H8.out; omega
              · obtain rfl : i = 8 := by have := hi.out; omega
                have t5 : decide (((8 : Nat) : Int) < 8) = false := by decide
                clear h hi
                have hD2 : Row wr Bd 0 32 .u8 (fun q => ((Sha.sum n f q : Nat) : Int)) := hD.out.congr fun q hq => by rw [if_pos (by omega)]
                have hrg := Lib.hid (range32 hD2.reads)
                have hth := Lib.hid hD2
                clear hD2 hD
                go_upto_region 21 with fail
                go_wp2_with first
                  | (refine wpList_load_mid rfl 44 (.tmp 2) rfl Bd 0 rfl (c32 (Sha.sum n f)) (.array 32 5) hrg.out (by kernel_rfl) rfl (by rw [c32_length]; kernel_rfl) ?_)
                  | (refine wpList_store_mid rfl 44 (.tmp 2) (.tmp 68) rfl Bd 0 (c32 (Sha.sum n f)).toArray rfl rfl (by rw [List.size_toArray, c32_length]; exact there32 hth.out) (by rw [List.size_toArray, c32_length]; kernel_rfl) (c32_one _) ?_)
                have hst := range32 (hth.out.store (g := Sha.sum n f)).reads
                refine bodyPost_ret (v := d32 (Sha.sum n f)) (results_cell rfl rfl (run_loadVar_mid _ Bd 0 44 (c32 (Sha.sum n f)) (.array 32 5) hst (by kernel_rfl) rfl (by rw [c32_length]; kernel_rfl))) rfl ⟨rfl, ?_⟩
                rw [hBd]
                exact below_cells (Nat.le_refl _) _ _ _ hF.out
      · have t3 : decide ((55 : Int) < (r : Int)) = true := by rw [decide_eq_true_eq]; omega
        have HH := Lib.hid hk
        clear hk
        go_wp2_with fail
        refine HP.out.mono ?_
        rintro e w5 ⟨rfl, hF5, hR5⟩
        have hA := Lib.hid (HPAD.out w5 hF5 hR5)
        clear HPAD HP hF5 hR5 hR4 hF4 hV4 hs4 hcl HK
        go_wp2_with fail
        go_loopg [6] 2 (fun g x wr => ∃ (i l c off : Nat), x = .slice (some ⟨Be, off, none⟩) l c ∧ Hid (i + g = 2 ∧ l = 64 * g) ∧ Hid (c + 64 * i = 128 ∧ (0 < l → off = 64 * i)) ∧
          Hid (Fr (At (Bd + 1) 0 8) W2 wr) ∧ Hid (Row wr (Bd + 1) 0 8 .u32 (fun q => ((Sha.st n f (j + i)).get q : Int))) ∧ Hid (Reads wr Be 0 (64 * 2) .u8 (fun i => ((Sha.pad n f (64 * j + i) : Nat) : Int))) ∧ Hid (Be < wr.heap.size))
        case atStart => exact ⟨0, 64 * 2, 128, 0, rfl, Lib.hid ⟨by omega, by omega⟩, Lib.hid ⟨by omega, fun _ => rfl⟩, Lib.hid hA.out.2.1, Lib.hid hA.out.2.2.1, Lib.hid hA.out.1, Lib.hid hA.out.2.2.2⟩
        case round =>
          clear hA
          obtain ⟨i, l, c, off, rfl, hi, hc, hF, hV, hE, hs⟩ := hrel
          by_cases h : 0 < l
          · obtain rfl := hc.out.2 h
            have t4 : decide ((0 : Int) < (l : Int)) = true := by rw [decide_eq_true_eq]; omega
            have t4' : decide (0 < l) = true := by rw [decide_eq_true_eq]; omega
            have b4 : (64 : Int) ≤ l := by have := hi.out; omega
            have b4' : 64 ≤ l := by have := hi.out; omega
            have b5 : (l : Int) ≤ c := by have := hi.out; have := hc.out; omega
            have b5' : l ≤ c := by have := hi.out; have := hc.out; omega
            have b6 : (c : Int) ≤ 128 := by have := hc.out; omega
            have b7 : (64 : Int) ≤ c := by omega
            have hgk : 3 < W2.heap.size := by have := HT2.out.size; omega
            have hC := absorb_any (Bd + 1) Be (64 * i) c (Sha.st n f (j + i)) (Sha.st_ok n f _) (fun q => Sha.pad n f (64 * j + (64 * i + q))) (fun q => Sha.pad_lt HBy.out _) (by omega) wr hV.out
              (by have h1 := hE.out.sub (64 * i) 64 (by have := hi.out; omega); rw [Nat.zero_add] at h1; exact h1)
              (HT2.out.numbers.fr hF.out hgk (fun i _ k => by have := k.1; have := HZ.out; omega)) (by have := hF.out.size; have := HS0.out; omega) hs.out (by have := hF.out.size; omega)
            have hC' := Lib.hid hC
            clear hC hgk h
            go_wp2_with fail
            refine hC'.out.mono ?_
            rintro e w1 ⟨rfl, hF1, hV1⟩
            go_wp2_with fail
            all_goals
              go_roundg (2 - (i + 1))
              case rel =>
                refine ⟨i + 1, l - 64, _, _, rfl, Lib.hid ⟨by have := hi.out; omega, by have := hi.out; omega⟩, Lib.hid ⟨by have := hc.out; omega, fun _ => by first | omega | (exfalso; have := hi.out; omega)⟩, Lib.hid (hF.out.trans hF1), Lib.hid ?_,
                  Lib.hid (hE.out.fr hF1 hs.out (fun _ _ k => by have := k.1; have := HBd.out; omega)), Lib.hid (Nat.lt_of_lt_of_le hs.out hF1.size)⟩
                rw [st_step n f _ (j + i) (fun q => by rw [show 64 * (j + i) + q = 64 * j + (64 * i + q) by omega])] at hV1
                exact hV1
              case measure => have := hi.out; omega
          · have t4 : decide ((0 : Int) < (l : Int)) = false := by rw [decide_eq_false_iff_not]; omega
            have t4' : decide (0 < l) = false := by rw [decide_eq_false_iff_not]; omega
            obtain rfl : l = 0 := by omega
            obtain rfl : i = 2 := by have := hi.out; omega
            rw [← HNB.out] at hV
            obtain ⟨S, hS⟩ : ∃ S, S = Sha.st n f (Sha.nb n) := ⟨_, rfl⟩
            rw [← hS] at hV
            have hSok : S.ok := by rw [hS]; exact Sha.st_ok n f _
            have HS := Lib.hid hS
            have HSok := Lib.hid hSok
            clear hS hSok h hi hc
            have c0 : wr.cell? ⟨Bd + 1, 0, none⟩ = some (.int .u32 (S.get 0 : Int)) := hV.out.cell 0 (by decide)
            have c1 : wr.cell? ⟨Bd + 1, 1, none⟩ = some (.int .u32 (S.get 1 : Int)) := hV.out.cell 1 (by decide)
            have c2 : wr.cell? ⟨Bd + 1, 2, none⟩ = some (.int .u32 (S.get 2 : Int)) := hV.out.cell 2 (by decide)
            have c3 : wr.cell? ⟨Bd + 1, 3, none⟩ = some (.int .u32 (S.get 3 : Int)) := hV.out.cell 3 (by decide)
            have c4 : wr.cell? ⟨Bd + 1, 4, none⟩ = some (.int .u32 (S.get 4 : Int)) := hV.out.cell 4 (by decide)
            have c5 : wr.cell? ⟨Bd + 1, 5, none⟩ = some (.int .u32 (S.get 5 : Int)) := hV.out.cell 5 (by decide)
            have c6 : wr.cell? ⟨Bd + 1, 6, none⟩ = some (.int .u32 (S.get 6 : Int)) := hV.out.cell 6 (by decide)
            have c7 : wr.cell? ⟨Bd + 1, 7, none⟩ = some (.int .u32 (S.get 7 : Int)) := hV.out.cell 7 (by decide)
            have HD2 := Lib.hid (HD.out.fr hF.out (by have := HS0.out; omega) (fun _ _ k => by have := k.1; omega))
            clear hs hE
            go_wp2_with fail
            go_loopg [54] 8 (fun g x wr => ∃ (i : Nat), x = .int .i64 i ∧ Hid (i + g = 8) ∧ Hid (Below Bd w wr) ∧ Hid (Row wr Bd 0 32 .u8 (fun q => if q < 4 * i then ((Sha.sum n f q : Nat) : Int) else 0)) ∧ Hid (Bd < wr.heap.size))
            case atStart =>
              refine ⟨0, rfl, Lib.hid rfl, Lib.hid (HW.out.trans (hF.out.below Bd (by have := HS0.out; omega) (fun b o hb k => by have := k.1; omega))), Lib.hid (HD2.out.congr fun q _ => by rw [if_neg (by omega)]), Lib.hid (by have := hF.out.size; have := HS0.out; omega)⟩
            case round =>
              clear hF hV HD2 c0 c1 c2 c3 c4 c5 c6 c7
              obtain ⟨i, rfl, hi, hF, hD, hs⟩ := hrel
              by_cases h : i < 8
              · have t5 : decide ((i : Int) < 8) = true := by rw [decide_eq_true_eq]; omega
                have t5' : decide (i < 8) = true := by rw [decide_eq_true_eq]; omega
                have b4 : (i : Int) ≤ 7 := by omega
                have hix := index8 (S.get 0) (S.get 1) (S.get 2) (S.get 3) (S.get 4) (S.get 5) (S.get 6) (S.get 7) wr i h (S.get i) (s8_list S i h)
                have hct := cut4 Bd wr i h
                obtain ⟨v, hv⟩ : ∃ v, v = S.get i := ⟨_, rfl⟩
                rw [← hv] at hix
                have hvl : v < 4294967296 := by rw [hv]; exact Sha.S8.get_lt HSok.out i
                have b5 : (v : Int) < 4294967296 := by omega
                have hP := put_any Bd (4 * i) 4 (32 - 4 * i) v _ (by decide) (by omega) wr (by have h1 := hD.out.sub (4 * i) 4 (by omega); rw [Nat.zero_add] at h1; exact h1)
                have HV := Lib.hid hv
                have HP2 := Lib.hid hP
                have H8 := Lib.hid h
                clear hv hvl hP h
                go_wp2_with fail
                refine HP2.out.mono ?_
                rintro e w1 ⟨rfl, hF1, hR1⟩
                go_wp2_with fail
                go_roundg (8 - (i + 1))
                case rel =>
                  refine ⟨i + 1, by go_num, Lib.hid (by have := hi.out; have := H8.out; omega), Lib.hid (hF.out.trans (hF1.below Bd (by have := hs.out; omega) (fun b o hb k => by have := k.1; omega))), Lib.hid ⟨fun q hq => ?_, fun q hq => ?_⟩, Lib.hid (Nat.lt_of_lt_of_le hs.out hF1.size)⟩
                  · rw [Nat.zero_add]
                    by_cases e : 4 * i ≤ q ∧ q < 4 * i + 4
                    · have h1 := hR1.cell (q - 4 * i) (by omega)
                      rw [show 4 * i + (q - 4 * i) = q by omega] at h1
                      rw [h1, if_pos (by omega), HV.out, HS.out]
                      unfold Sha.sum
                      rw [show q / 4 = i by omega, show 8 * (4 - 1 - (q - 4 * i)) = 24 - 8 * (q % 4) by omega]
                    · have h1 := hD.out.cell q hq
                      rw [Nat.zero_add] at h1
                      rw [hF1.cells Bd q hs.out (fun k => e k.2), h1]
                      by_cases e' : q < 4 * i
                      · rw [if_pos e', if_pos (by omega)]
                      · rw [if_neg e', if_neg (by omega)]
                  · rw [Nat.zero_add, hF1.frozen Bd q hs.out]
                    have h1 := hD.out.free q hq
                    rw [Nat.zero_add] at h1
                    exact h1
                case measure => have := hi.out; have := H8.out; omega
              · obtain rfl : i = 8 := by have := hi.out; omega
                have t5 : decide (((8 : Nat) : Int) < 8) = false := by decide
                clear h hi
                have hD2 : Row wr Bd 0 32 .u8 (fun q => ((Sha.sum n f q : Nat) : Int)) := hD.out.congr fun q hq => by rw [if_pos (by omega)]
                have hrg := Lib.hid (range32 hD2.reads)
                have hth := Lib.hid hD2
                clear hD2 hD
                go_upto_region 21 with fail
                go_wp2_with first
                  | (refine wpList_load_mid rfl 44 (.tmp 2) rfl Bd 0 rfl (c32 (Sha.sum n f)) (.array 32 5) hrg.out (by kernel_rfl) rfl (by rw [c32_length]; kernel_rfl) ?_)
                  | (refine wpList_store_mid rfl 44 (.tmp 2) (.tmp 68) rfl Bd 0 (c32 (Sha.sum n f)).toArray rfl rfl (by rw [List.size_toArray, c32_length]; exact there32 hth.out) (by rw [List.size_toArray, c32_length]; kernel_rfl) (c32_one _) ?_)
                have hst := range32 (hth.out.store (g := Sha.sum n f)).reads
                refine bodyPost_ret (v := d32 (Sha.sum n f)) (results_cell rfl rfl (run_loadVar_mid _ Bd 0 44 (c32 (Sha.sum n f)) (.array 32 5) hst (by kernel_rfl) rfl (by rw [c32_length]; kernel_rfl))) rfl ⟨rfl, ?_⟩
                rw [hBd]
                exact below_cells (Nat.le_refl _) _ _ _ hF.out
end Go.Proofs.YtelikpkekloffaaDoor
