/- slices.Grow, slices.Concat, digest.Tagged of this program, walked. -/
import Derived.Test.YtelikpkekloffaaDoorDigC
import Derived.Lib.AppendZerosOnto
import Derived.Laws.AppendOwn
import Derived.OwnWalk
import Derived.Laws.AppendOwnNone
import Derived.Laws.OwnMore
import Derived.Laws.IdiomStrings
import Derived.Great.Walk
namespace Go.Proofs.YtelikpkekloffaaDoor
open Go.RowKit

theorem info8 : (Tryd.prog.info? 5).map (fun i => (i.zero, i.size, i.bytes)) = some (some (.int .u8 0), 1, 1) := by kernel_rfl
theorem under_int : Tryd.prog.underlying 3 = some (.int .i64) := by kernel_rfl

set_option maxHeartbeats 4000000 in
set_option maxRecDepth 100000 in
/-- slices.Grow of the nil slice: an own row with room for n. -/
theorem grow_any (n : Nat) (h0 : 0 < n) (hn : n ≤ 140737488355328) (w : World) :
    Calls Tryd.prog 106 #[.slice none 0 0, .int .i64 n] w fun e w' => ∃ v, e = .returned v ∧ w'.ownsRow w.heap.size 5 1 v 0 [] ∧ v ≠ .slice none 0 0 ∧ Below w.heap.size w w' := by
  obtain ⟨i, hi, hzz⟩ := Option.map_eq_some_iff.1 info8
  simp only [Prod.mk.injEq] at hzz
  obtain ⟨hz, hs, hb⟩ := hzz
  have hfit : Builtin.nextslicecap (0 + n) 0 * i.bytes ≤ 281474976710656 := growslice_fits (by omega) (by rw [hb]; omega)
  have hrz := fun ty => Lib.run_append_grow_zeros w 33 3 ty 5 i (.int .u8 0) .i64 .i64 Tryd.underlying33 under_int hi hz none 0 0 [] (run_firstCells_none w.drew i.size 0 0 0) n h0 (by rw [hs]; decide) (by omega) (by omega) (by rw [hb]; omega) hfit
  have hmax := grownCap_le_maxLen w (0 + n) 0 5 (by unfold maxLen; omega)
  have hge := grownCap_ge w (0 + n) 0 5
  generalize grownCap w (0 + n) 0 5 = G at *
  have hown : ∀ W : World, W.heap.size = w.heap.size → (W.alloc (.cells (([] : List Value).toArray ++ Builtin.zeroCells (Value.int .u8 0).cells n ++ Builtin.zeroCells (Value.int .u8 0).cells (G - (0 + n))) 5)).ownsRow w.heap.size 5 1 (.slice (some ⟨w.heap.size, 0, none⟩) 0 G) 0 [] := fun W hW => by
    have h := World.ownsRow_made (base := w.heap.size) (e := 5) (size := 1) W (([] : List Value).toArray ++ Builtin.zeroCells (Value.int .u8 0).cells n ++ Builtin.zeroCells (Value.int .u8 0).cells (G - (0 + n))) G (by omega) hmax (by simp [size_zeroCells, Value.cells]; omega)
    rw [hW] at h
    exact h
  have hown2 := Lib.hid (hown w.drew rfl)
  clear hown
  generalize (([] : List Value).toArray ++ Builtin.zeroCells (Value.int .u8 0).cells n ++ Builtin.zeroCells (Value.int .u8 0).cells (G - (0 + n))) = CS at *
  have t1 : decide ((n : Int) < 0) = false := by rw [decide_eq_false_iff_not]; omega
  have t2 : decide ((0 : Int) < (n : Int)) = true := by rw [decide_eq_true_eq]; omega
  have t3 : decide (0 < n) = true := by rw [decide_eq_true_eq]; omega
  have b1 : (n : Int) ≤ 140737488355328 := by omega
  have b2 : (1 : Int) ≤ n := by omega
  have HRZ := Lib.hid hrz
  clear hrz hfit hge hmax hi hz hs hb h0 hn
  go_enter Tryd.func106, Tryd.ntmps106
  go_wp2_with (at_builtin; refine Lib.wpList_append_run _ rfl _ _ _ _ rfl _ _ rfl rfl _ _ (HRZ.out _) ?_)
  go_ret
  exact ⟨_, rfl, hown2.out, by simp, ((Below.refl _ _).alloc (Nat.le_refl _) _).drew⟩

/-- m bytes as cells. -/
def bl (m : Nat) (f : Nat → Nat) : List Value := (List.range m).map fun i => Value.int .u8 (f i : Int)
theorem bl_length (m : Nat) (f : Nat → Nat) : (bl m f).length = m := by simp [bl]
theorem bl_get (m : Nat) (f : Nat → Nat) (i : Nat) (h : i < m) : (bl m f)[i]? = some (.int .u8 (f i : Int)) := by
  unfold bl; rw [List.getElem?_map, List.getElem?_range h]; rfl
theorem bl_one (m : Nat) (f : Nat → Nat) : ∀ v ∈ bl m f, v.oneCell' = true := fun v hv => by
  obtain ⟨i, _, rfl⟩ := List.mem_map.1 hv
  rfl
theorem Bytes.cells {w : World} {B off n cap : Nat} {f : Nat → Nat} (h : Bytes w (some ⟨B, off, none⟩) n cap f) : ∀ j u, (bl n f)[j]? = some u → w.cell? ((⟨B, off, none⟩ : Addr).add j) = some u := fun j u hu => by
  have hj : j < n := by have := (List.getElem?_eq_some_iff.1 hu).1; rw [bl_length] at this; exact this
  obtain ⟨B', off', h1, h2, h3⟩ := h.lies (by omega)
  obtain ⟨rfl, rfl⟩ : B = B' ∧ off = off' := by simpa using h1
  rw [bl_get n f j hj] at hu
  rw [show (⟨B, off, none⟩ : Addr).add j = ⟨B, off + j, none⟩ by simp [Addr.add], h3 j hj]
  exact hu
theorem below_grown {w w' : World} {base : Nat} {v : Value} (hg : w.grownBy w' v.ownBlock) (hv : ∀ k, v.ownBlock = some k → base ≤ k) (hb : base ≤ w.heap.size) : Below base w w' :=
  ⟨hg.os, hg.tape, hg.output, hg.size, fun k hk => hg.block k (by omega) fun e => by have := hv k e.symm; omega⟩

theorem wpList_append_bytes (w : World) {ops : Array Oper} {rest : List Oper} {o : Oper} {a : Act} {Q : Exit → Act → World → Prop} (hgd : o.guard = none) (s x : Operand)
    (ho : o.op = .call { callee := .builtin .append, args := #[s, x], argTypes := #[33, 33] }) (base : Nat) (v : Value) (n : Nat) (xs : List Value) (hs : a.eval s = v) (hown : w.ownsRow base 5 1 v n xs) (hv : v ≠ .slice none 0 0)
    (p : Option Addr) (m c : Nat) (f : Nat → Nat) (hx : a.eval x = .slice p m c) (hb : Bytes w p m c f) (hle : n + m ≤ 140737488355328) (hbase : base ≤ w.heap.size)
    (h : ∀ v' w', Hid (w'.ownsRow base 5 1 v' (n + m) (xs ++ bl m f) ∧ v' ≠ .slice none 0 0 ∧ Below base w w') → wpList Tryd.prog ops Q rest (a.put o.dst v') w') : wpList Tryd.prog ops Q (o :: rest) a w := by
  obtain ⟨i, hi, hzz⟩ := Option.map_eq_some_iff.1 info8
  simp only [Prod.mk.injEq] at hzz
  obtain ⟨hz, hs1, hb1⟩ := hzz
  cases p with
  | none =>
    have hc := hb.nil rfl
    have hm : m = 0 := by have := hb.le; omega
    subst hc hm
    refine wpList_append_own_none hgd s x 33 ho base 5 i 1 Tryd.underlying33 hi v n xs hs hown hx ?_
    exact h v w (Lib.hid ⟨by simpa [bl] using hown, hv, Below.refl _ _⟩)
  | some ad =>
    have hplain : ∀ j u, (bl m f)[j]? = some u → w.cell? (ad.add j) = some u := fun j u hu => by
      have hj : j < m := by have := (List.getElem?_eq_some_iff.1 hu).1; rw [bl_length] at this; exact this
      obtain ⟨B, off, h1, _, _⟩ := hb.lies (by omega)
      obtain rfl : ad = ⟨B, off, none⟩ := by simpa using h1
      exact hb.cells j u hu
    refine wpList_append_own w hgd s x 33 ho base 5 i (.int .u8 0) 1 1 Tryd.underlying33 hi hz hs1 hb1 rfl (by decide) v n xs hs hown ad m c (bl m f) hx (by rw [bl_length, Nat.mul_one]) hplain (bl_one m f) (by unfold maxLen; omega) (by omega) hbase ?_
    intro v' w' h1 h2 h3
    exact h v' w' (Lib.hid ⟨h1, fun e => hv (h3.1 e).1, below_grown h2 (fun k hk => (hown.lt k hk).1) hbase⟩)

theorem Bytes.below {w w' : World} {p : Option Addr} {n cap : Nat} {f : Nat → Nat} (h : Bytes w p n cap f) {b : Nat} (hb : Below b w w') (hs : w.heap.size ≤ b) : Bytes w' p n cap f :=
  ⟨fun h0 => by obtain ⟨B, off, h1, h2, h3⟩ := h.lies h0; exact ⟨B, off, h1, Nat.lt_of_lt_of_le h2 hb.size, h3.below hb (by omega)⟩, h.byte, h.le, h.nil⟩

/-- an own row of bytes is bytes. -/
theorem Bytes.own {w : World} {base : Nat} {v : Value} {n : Nat} {f : Nat → Nat} {xs : List Value} (h : w.ownsRow base 5 1 v n xs) (hx : ∀ i, i < n → xs[i]? = some (.int .u8 (f i : Int))) (hf : ∀ i, i < n → f i < 256) :
    ∃ p cap, v = .slice p n cap ∧ Bytes w p n cap f ∧ cap ≤ 9223372036854775807 := by
  rcases h.2 with ⟨rfl, rfl⟩ | ⟨g, cap, cur, rfl, hb, hg, hnc, hcm, hcs, htk⟩
  · exact ⟨none, 0, rfl, ⟨fun h => absurd h (by omega), hf, Nat.le_refl _, fun _ => rfl⟩, by omega⟩
  · refine ⟨_, cap, rfl, ⟨fun _ => ⟨g, 0, rfl, (Array.getElem?_eq_some_iff.1 hg).1, fun i hi => ?_⟩, hf, hnc, fun h => by cases h⟩, by unfold maxLen at hcm; omega⟩
    have h1 := h.cells (g := g) rfl i _ (hx i hi)
    rw [Addr.add_mid] at h1
    exact h1

set_option maxHeartbeats 4000000 in
set_option maxRecDepth 100000 in
/-- slices.Concat of two slices of bytes, the first not empty. -/
theorem concat_any (Ba : Nat) (p1 p2 : Option Addr) (n1 c1 n2 c2 : Nat) (f1 f2 : Nat → Nat) (w : World) (hc0 : w.cell? ⟨Ba, 0, none⟩ = some (.slice p1 n1 c1)) (hc1 : w.cell? ⟨Ba, 1, none⟩ = some (.slice p2 n2 c2))
    (h1 : Bytes w p1 n1 c1 f1) (h2 : Bytes w p2 n2 c2 f2) (hB : Ba < w.heap.size) (h0 : 0 < n1) (hn : n1 + n2 ≤ 140737488355328) :
    Calls Tryd.prog 76 #[.slice (some ⟨Ba, 0, none⟩) 2 2] w fun e w' => ∃ p cap, e = .returned (.slice p (n1 + n2) cap) ∧ Below w.heap.size w w' ∧ Bytes w' p (n1 + n2) cap (Sha.cat n1 f1 f2) ∧ cap ≤ 9223372036854775807 := by
  have H1 := Lib.hid h1
  have H2 := Lib.hid h2
  have HC0 := Lib.hid hc0
  have HC1 := Lib.hid hc1
  have HB := Lib.hid hB
  have HN := Lib.hid hn
  have H0 := Lib.hid h0
  have b1 : (n1 : Int) ≤ 140737488355328 := by omega
  have b2 : (n2 : Int) ≤ 140737488355328 := by omega
  have b3 : (n1 : Int) + (n2 : Int) ≤ 140737488355328 := by omega
  clear h1 h2 hB hn h0
  go_enter Tryd.func76, Tryd.ntmps76
  go_wp2_with fail
  go_loopg [3, 11] 2 (fun g x y wr => w = wr ∧ ∃ i s : Nat, x = .int .i64 s ∧ y = .int .i64 i ∧ i + g = 2 ∧ (0 = i ∧ 0 = s ∨ 1 = i ∧ n1 = s ∨ 2 = i ∧ n1 + n2 = s))
  case atStart => exact ⟨rfl, 0, 0, rfl, rfl, rfl, .inl ⟨rfl, rfl⟩⟩
  case round =>
    obtain ⟨rfl, i, s, rfl, rfl, hi, hs⟩ := hrel
    rcases hs with ⟨rfl, rfl⟩ | ⟨rfl, rfl⟩ | ⟨rfl, rfl⟩
    · go_wp2_with fail
      go_roundg 1
      case rel => exact ⟨rfl, 1, n1, rfl, rfl, rfl, .inr (.inl ⟨rfl, rfl⟩)⟩
      case measure => omega
    · have t1 : decide ((n1 : Int) + (n2 : Int) < 0) = false := by rw [decide_eq_false_iff_not]; omega
      go_wp2_with fail
      go_roundg 0
      case rel => exact ⟨rfl, 2, n1 + n2, by go_num, rfl, rfl, .inr (.inr ⟨rfl, rfl⟩)⟩
      case measure => omega
    · have hg := grow_any (n1 + n2) (by have := H0.out; omega) HN.out w
      rw [Int.natCast_add] at hg
      have HG := Lib.hid hg
      clear hg
      go_wp2_with fail
      refine HG.out.mono ?_
      rintro e w1 ⟨v, rfl, hown, hv, hb⟩
      have HO := Lib.hid (show _ ∧ _ ∧ _ from ⟨hown, hv, hb⟩)
      clear hown hv hb HG
      go_wp2_with fail
      go_loopg [6, 27] 2 (fun g x y w2 => ∃ (v : Value) (i m : Nat) (xs : List Value), x = v ∧ y = .int .i64 i ∧ i + g = 2 ∧ Hid (w2.ownsRow w.heap.size 5 1 v m xs ∧ v ≠ .slice none 0 0 ∧ Below w.heap.size w w2) ∧
        (0 = i ∧ 0 = m ∧ [] = xs ∨ 1 = i ∧ n1 = m ∧ bl n1 f1 = xs ∨ 2 = i ∧ n1 + n2 = m ∧ bl n1 f1 ++ bl n2 f2 = xs))
      case atStart => exact ⟨_, 0, 0, [], rfl, rfl, rfl, HO, .inl ⟨rfl, rfl, rfl⟩⟩
      case round =>
        obtain ⟨v, i, m, xs, rfl, rfl, hi, ho, hs⟩ := hrel
        rcases hs with ⟨rfl, rfl, rfl⟩ | ⟨rfl, rfl, rfl⟩ | ⟨rfl, rfl, rfl⟩
        · have d0 : wr.cell? ⟨Ba, 0, none⟩ = some (.slice p1 n1 c1) := (ho.out.2.2.cell (p := ⟨Ba, 0, none⟩) HB.out).trans HC0.out
          have hA := Lib.hid (H1.out.below ho.out.2.2 (Nat.le_refl _))
          go_wp2_with (at_builtin; refine wpList_append_bytes _ rfl (.tmp 31) (.tmp 32) rfl w.heap.size _ 0 [] rfl ho.out.1 ho.out.2.1 p1 n1 c1 f1 rfl hA.out (by have := HN.out; omega) ho.out.2.2.size ?_; intro v2 w2 ho2)
          go_roundg 1
          case rel => exact ⟨_, 1, n1, _, rfl, rfl, rfl, Lib.hid ⟨by simpa using ho2.out.1, ho2.out.2.1, ho.out.2.2.trans ho2.out.2.2⟩, .inr (.inl ⟨rfl, rfl, rfl⟩)⟩
          case measure => omega
        · have d0 : wr.cell? ⟨Ba, 1, none⟩ = some (.slice p2 n2 c2) := (ho.out.2.2.cell (p := ⟨Ba, 1, none⟩) HB.out).trans HC1.out
          have hA := Lib.hid (H2.out.below ho.out.2.2 (Nat.le_refl _))
          go_wp2_with (at_builtin; refine wpList_append_bytes _ rfl (.tmp 31) (.tmp 32) rfl w.heap.size _ n1 (bl n1 f1) rfl ho.out.1 ho.out.2.1 p2 n2 c2 f2 rfl hA.out HN.out ho.out.2.2.size ?_; intro v2 w2 ho2)
          go_roundg 0
          case rel => exact ⟨_, 2, n1 + n2, _, rfl, rfl, rfl, Lib.hid ⟨ho2.out.1, ho2.out.2.1, ho.out.2.2.trans ho2.out.2.2⟩, .inr (.inr ⟨rfl, rfl, rfl⟩)⟩
          case measure => omega
        · obtain ⟨p, cap, rfl, hbs, hcp⟩ := Bytes.own (f := Sha.cat n1 f1 f2) ho.out.1 (fun i hi => by
              unfold Sha.cat
              by_cases h : i < n1
              · rw [if_pos h, List.getElem?_append_left (by rw [bl_length]; exact h)]; exact bl_get n1 f1 i h
              · rw [if_neg h, List.getElem?_append_right (by rw [bl_length]; omega), bl_length]; exact bl_get n2 f2 _ (by omega)) (fun i hi => by
              unfold Sha.cat
              by_cases h : i < n1
              · rw [if_pos h]; exact H1.out.byte i h
              · rw [if_neg h]; exact H2.out.byte _ (by omega))
          have HBS := Lib.hid hbs
          have HCP := Lib.hid hcp
          clear hbs hcp
          go_wp2_with fail
          go_ret
          exact ⟨_, _, rfl, ho.out.2.2, HBS.out, HCP.out⟩

/-- the bytes of a string. -/
def sb (s : ByteArray) (i : Nat) : Nat := (s.data.toList.getD i 0).toNat
theorem sb_lt (s : ByteArray) (i : Nat) : sb s i < 256 := UInt8.toNat_lt _
theorem info32 : (Tryd.prog.info? 44).map (·.size) = some 32 := by kernel_rfl
theorem c32_size (g : Nat → Nat) : (c32 g).toArray.size = 32 := by rw [List.size_toArray, c32_length]
theorem under_string : Tryd.prog.underlying 9 = some .string := by kernel_rfl
theorem under_byte : Tryd.prog.underlying 5 = some (.int .u8) := by kernel_rfl
theorem under32 : Tryd.prog.underlying 44 = some (.array 32 5) := by kernel_rfl

theorem run_alloc32 (w : World) : (Instr.alloc 44 true (.tuple #[])).run Tryd.prog w = .ok (.pointer (some ⟨w.heap.size, 0, none⟩)) (w.alloc (.cells ((List.replicate 32 0).map (Value.int .u8)).toArray 44)) := by kernel_rfl
theorem zeros32 (i : Nat) (hi : i < 32) : (List.replicate 32 (0 : Int))[i]? = some 0 := by
  rw [List.getElem?_replicate, if_pos hi]
theorem wpList_alloc32 {w : World} {ops : Array Oper} {rest : List Oper} {o : Oper} {a : Act} {Q : Exit → Act → World → Prop} (hg : o.guard = none) (ho : o.op = .alloc 44)
    (h : ∀ w', Hid (Row w' w.heap.size 0 32 .u8 (fun _ => 0) ∧ Below w.heap.size w w' ∧ w'.heap.size = w.heap.size + 1) → wpList Tryd.prog ops Q rest (a.put o.dst (.pointer (some ⟨w.heap.size, 0, none⟩))) w') : wpList Tryd.prog ops Q (o :: rest) a w := by
  refine Great.wpList_runTo hg o.dst rfl (.pointer (some ⟨w.heap.size, 0, none⟩)) _ ?_ (h (w.alloc (.cells ((List.replicate 32 0).map (Value.int .u8)).toArray 44)) (Lib.hid ⟨row_list w _ _ 32 .u8 _ zeros32, (Below.refl _ _).alloc (Nat.le_refl _) _, alloc_size _ _⟩))
  unfold execOp
  simp only [ho, Sem.run_bind, Sem.run_pure, run_alloc32, Result.andThen_ok]

theorem wpList_conv {w : World} {ops : Array Oper} {rest : List Oper} {o : Oper} {a : Act} {Q : Exit → Act → World → Prop} (hg : o.guard = none) (x : Operand) (ho : o.op = .convert 9 33 x) (s : ByteArray) (hx : a.eval x = .string s) (hs : s.size ≤ 9223372036854775807)
    (h : ∀ cap w', Hid (Bytes w' (some ⟨w.heap.size, 0, none⟩) s.size cap (sb s) ∧ Below w.heap.size w w' ∧ cap ≤ 9223372036854775807) → wpList Tryd.prog ops Q rest (a.put o.dst (.slice (some ⟨w.heap.size, 0, none⟩) s.size cap)) w') : wpList Tryd.prog ops Q (o :: rest) a w := by
  have hr := run_bytes_of_string (P := Tryd.prog) w 9 33 5 s under_string Tryd.underlying33 under_byte
  have hm := grownCap_le_maxLen w s.size 0 5 (by unfold maxLen; omega)
  have hge := grownCap_ge w s.size 0 5
  generalize grownCap w s.size 0 5 = G at *
  refine Great.wpList_runTo hg o.dst rfl (.slice (some ⟨w.heap.size, 0, none⟩) s.size G) _ ?_ (h G (w.drew.alloc (.cells (bytesRow s G) 5 ((bytesRow s G).size, (bytesRow s G).size + 1))) (Lib.hid ⟨⟨fun _ => ⟨w.heap.size, 0, rfl, ?_, fun i hi => ?_⟩, fun i _ => sb_lt s i, hge, fun e => by cases e⟩, ((Below.refl _ _).drew).alloc (Nat.le_refl _) _, by unfold maxLen at hm; omega⟩))
  · unfold execOp
    simp only [ho, hx, Sem.run_bind, Sem.run_pure, hr, Result.andThen_ok]
  · rw [alloc_size]; exact Nat.lt_succ_self _
  · have hd : i < s.data.size := hi
    have hh : (w.drew.alloc (.cells (bytesRow s G) 5 ((bytesRow s G).size, (bytesRow s G).size + 1))).heap[w.heap.size]? = some (.cells (bytesRow s G) 5 ((bytesRow s G).size, (bytesRow s G).size + 1)) := by
      show (w.heap.push _)[w.heap.size]? = _
      rw [Array.getElem?_push, if_pos rfl]
    have hr2 : (bytesRow s G)[i]? = some (.int .u8 (sb s i : Int)) := by
      unfold bytesRow sb
      have e : s.data.toList.getD i 0 = s.data[i] := by
        rw [List.getD_eq_getElem?_getD, Array.getElem?_toList, Array.getElem?_eq_getElem hd]
        rfl
      rw [Array.getElem?_append_left (by simpa using hd), Array.getElem?_map, Array.getElem?_eq_getElem hd, e]
      rfl
    generalize w.drew.alloc (.cells (bytesRow s G) 5 ((bytesRow s G).size, (bytesRow s G).size + 1)) = W at hh ⊢
    rw [Nat.zero_add]
    simp only [World.cell?, hh]
    exact hr2

set_option maxHeartbeats 4000000 in
set_option maxRecDepth 100000 in
/-- digest.Tagged. -/
theorem tagged_any (tag : ByteArray) (p : Option Addr) (n cap : Nat) (f : Nat → Nat) (w : World) (hT : Tabs w) (hb : Bytes w p n cap f) (hn : 32 + n ≤ 140737488355328) (htag : tag.size ≤ 140737488355328) (hcap : cap ≤ 9223372036854775807) :
    Calls Tryd.prog 38 #[.string tag, .slice p n cap] w fun e w' => e = .returned (d32 (Sha.tagged tag.size (sb tag) n f)) ∧ Below w.heap.size w w' := by
  have HT := Lib.hid hT
  have HB := Lib.hid hb
  have HN := Lib.hid hn
  have HTG := Lib.hid htag
  have HCP := Lib.hid hcap
  clear hT hb hn htag hcap
  obtain ⟨D, hD⟩ : ∃ D, D = w.heap.size := ⟨_, rfl⟩
  have HD := Lib.hid hD
  clear hD
  go_enter Tryd.func38, Tryd.ntmps38
  go_upto_region 1 with (refine wpList_alloc32 rfl rfl ?_; intro w1 hw1)
  have hR1 := hw1.out.1
  have hs1 := hw1.out.2.2
  have hB1 := Lib.hid hw1.out.2.1
  rw [← HD.out] at hR1 hs1
  replace hR1 := Lib.hid hR1
  replace hs1 := Lib.hid hs1
  rw [← HD.out]
  clear hw1
  have hW1 : w.heap.size ≤ w1.heap.size := hB1.out.size
  have hT1 := Lib.hid (HT.out.below hB1.out)
  replace hW1 := Lib.hid hW1
  go_wp2_with (refine wpList_conv rfl (.tmp 6) rfl tag rfl (by have := HTG.out; omega) ?_; intro ct w2 hw2)
  have hT2 := hT1.out.below hw2.out.2.1
  have HS := Lib.hid (sum_any _ tag.size ct (sb tag) w2 hT2 hw2.out.1 (by have := HTG.out; omega) hw2.out.2.2)
  have hB2 := Lib.hid (hB1.out.trans (hw2.out.2.1.mono hW1.out))
  have hR2 := Lib.hid (hR1.out.below hw2.out.2.1 (by have := hs1.out; omega))
  have hs2 : Hid (D + 1 ≤ w2.heap.size) := Lib.hid (by have := hs1.out; have := hw2.out.2.1.size; omega)
  replace hT2 := Lib.hid hT2
  clear hw2
  refine HS.out.mono ?_
  rintro e w3 ⟨rfl, hb3⟩
  have hT3 := Lib.hid (hT2.out.below hb3)
  have hB3 := Lib.hid (hB2.out.trans (hb3.mono hB2.out.size))
  have hR3 := Lib.hid (hR2.out.below hb3 (by have := hs2.out; omega))
  have hs3 : Hid (D + 1 ≤ w3.heap.size) := Lib.hid (by have := hs2.out; have := hb3.size; omega)
  clear hb3 HS hT2 hB2 hR2 hs2 hT1 hB1 hR1 hs1
  obtain ⟨g, hg⟩ : ∃ g, g = Sha.sum tag.size (sb tag) := ⟨_, rfl⟩
  have HG := Lib.hid hg
  rw [show d32 (Sha.sum tag.size (sb tag)) = Value.agg (c32 g).toArray by rw [hg]; rfl]
  clear hg
  go_upto_region 2 with first
    | (refine wpList_alloc32 rfl rfl ?_; intro w4 hw4)
    | (refine wpList_store_mid rfl 44 (.tmp 5) (.tmp 8) rfl w3.heap.size 0 (c32 g).toArray rfl rfl (by rw [c32_size]; exact there32 hw4.out.1) (by rw [c32_size]; exact info32) (c32_one _) ?_)
  have hTr := hw4.out.1.store (g := g)
  have hB5 := below_cells (b := w3.heap.size) (Nat.le_refl _) (c32 g) 0 _ hw4.out.2.1
  have hs5 : w3.heap.size < (w4.setCells w3.heap.size 0 (c32 g)).heap.size := by
    have := (below_cells (b := w3.heap.size) (Nat.le_refl _) (c32 g) 0 _ (Below.refl w3.heap.size w4)).size
    have := hw4.out.2.2
    omega
  replace hTr := Lib.hid hTr
  replace hB5 := Lib.hid hB5
  replace hs5 := Lib.hid hs5
  clear hw4
  generalize w4.setCells w3.heap.size 0 (c32 g) = w5 at *
  have hB6 := Lib.hid (hB3.out.trans (hB5.out.mono (by have := hs3.out; have := HD.out; omega)))
  have hR6 := Lib.hid (hR3.out.below hB5.out (by have := hs3.out; omega))
  have hT6 := Lib.hid (HT.out.below hB6.out)
  have hDT : Hid (D < w3.heap.size) := hs3
  clear hT3 hB3 hR3 hB5 hW1 hs3
  generalize w3.heap.size = T at *
  have hsl : ∀ W : World, Sem.run Tryd.prog (Instr.sliceAt 44 (.pointer (some ⟨T, 0, none⟩)) none none none) W = .ok (.slice (some ⟨T, 0, none⟩) 32 32) W := fun W => by kernel_rfl
  go_wp2_with fail
  have hc0 : (w5.alloc (.cells #[.slice (some ⟨T, 0, none⟩) 32 32, .slice p n cap] 33)).cell? ⟨w5.heap.size, 0, none⟩ = some (.slice (some ⟨T, 0, none⟩) 32 32) := by rw [World.cell?_alloc_new]; rfl
  have hc1 : (w5.alloc (.cells #[.slice (some ⟨T, 0, none⟩) 32 32, .slice p n cap] 33)).cell? ⟨w5.heap.size, 1, none⟩ = some (.slice p n cap) := by rw [World.cell?_alloc_new]; rfl
  have hs6 := alloc_size w5 (.cells #[.slice (some ⟨T, 0, none⟩) 32 32, .slice p n cap] 33)
  have hB7 : Below w5.heap.size w5 (w5.alloc (.cells #[.slice (some ⟨T, 0, none⟩) 32 32, .slice p n cap] 33)) := (Below.refl _ _).alloc (Nat.le_refl _) _
  generalize w5.alloc (.cells #[.slice (some ⟨T, 0, none⟩) 32 32, .slice p n cap] 33) = w6 at *
  have hb1 : Bytes w6 (some ⟨T, 0, none⟩) 32 32 g := ⟨fun _ => ⟨T, 0, rfl, by have := hs5.out; omega, hTr.out.reads.below hB7 hs5.out⟩, fun i _ => by rw [HG.out]; exact Sha.sum_lt _ _ _, Nat.le_refl _, fun e => by cases e⟩
  have hb2 : Bytes w6 p n cap f := (HB.out.below hB6.out (Nat.le_refl _)).below hB7 (Nat.le_refl _)
  have HC := Lib.hid (concat_any w5.heap.size _ p 32 32 n cap g f w6 hc0 hc1 hb1 hb2 (by omega) (by decide) HN.out)
  have hT7 := Lib.hid (hT6.out.below hB7)
  have hR7 := Lib.hid (hR6.out.below hB7 (by have := hs5.out; have := hDT.out; omega))
  have hB8 := Lib.hid (hB6.out.trans (hB7.mono hB6.out.size))
  have hs7 : Hid (D < w6.heap.size) := Lib.hid (by have := hs5.out; have := hDT.out; omega)
  clear hc0 hc1 hs6 hB7 hb1 hb2 hT6 hR6 hB6 hs5 hDT hTr
  refine HC.out.mono ?_
  rintro e w7 ⟨p7, c7, rfl, hb7, hby7, hc7⟩
  have HS := Lib.hid (sum_any p7 (32 + n) c7 (Sha.cat 32 g f) w7 (hT7.out.below hb7) hby7 (by have := HN.out; omega) hc7)
  have hR8 := Lib.hid (hR7.out.below hb7 hs7.out)
  have hB9 := Lib.hid (hB8.out.trans (hb7.mono hB8.out.size))
  have hs8 : Hid (D < w7.heap.size) := Lib.hid (by have := hs7.out; have := hb7.size; omega)
  clear hb7 hby7 hc7 HC hT7 hR7 hB8 hs7
  go_wp2_with fail
  refine HS.out.mono ?_
  rintro e w8 ⟨rfl, hb8⟩
  have hR9 := Lib.hid (hR8.out.below hb8 hs8.out)
  have hB10 := Lib.hid (hB9.out.trans (hb8.mono hB9.out.size))
  clear hb8 HS hR8 hB9 hs8
  obtain ⟨G, hG⟩ : ∃ G, G = Sha.sum (32 + n) (Sha.cat 32 g f) := ⟨_, rfl⟩
  rw [show d32 (Sha.sum (32 + n) (Sha.cat 32 g f)) = Value.agg (c32 G).toArray by rw [hG]; rfl]
  have HGG := Lib.hid hG
  clear hG
  go_wp2_with (refine wpList_store_mid rfl 44 (.tmp 4) (.tmp 13) rfl D 0 (c32 G).toArray rfl rfl (by rw [c32_size]; exact there32 hR9.out) (by rw [c32_size]; exact info32) (c32_one _) ?_)
  have hst := range32 (hR9.out.store (g := G)).reads
  refine bodyPost_ret (v := d32 G) (results_cell rfl rfl (run_loadVar_mid _ D 0 44 (c32 G) (.array 32 5) hst under32 rfl (by rw [c32_length]; exact info32))) rfl ⟨?_, ?_⟩
  · rw [HGG.out, HG.out]; rfl
  · exact below_cells (by rw [HD.out]; exact Nat.le_refl _) _ _ _ hB10.out
end Go.Proofs.YtelikpkekloffaaDoor
