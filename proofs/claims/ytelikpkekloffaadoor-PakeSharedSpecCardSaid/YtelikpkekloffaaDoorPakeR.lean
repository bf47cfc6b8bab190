/- pake.roles of this program, walked: the map of both roles; its look-ups. -/
import Derived.Test.YtelikpkekloffaaDoorSign
import Derived.Test.YtelikpkekloffaaDoorLawDet
import Derived.RangeFuncRecord
import Derived.Laws.EntriesVeiled
import Derived.Deep.RegionHeld3
namespace Go.Proofs.YtelikpkekloffaaDoor
open Go.RowKit

def hostV : Value := .agg #[.string ⟨#[104, 111, 115, 116]⟩, .func (.func 92) #[] #[]]
def guestV : Value := .agg #[.string ⟨#[103, 117, 101, 115, 116]⟩, .func (.func 93) #[] #[]]
def roleMap : Array MapEntry := #[{ key := .int .i64 1, val := hostV, born := 0 }, { key := .int .i64 2, val := guestV, born := 1 }]

theorem under_map : Tryd.prog.underlying 73 = some (.map 3 72) := by kernel_rfl

theorem run_ck (b : Bool) (k : Int) (w : World) : Sem.run Tryd.prog (Instr.checkKey b 10000 3 (.int .i64 k)) w = .ok () w := by
  rw [show (10000 : Nat) = 9999 + 1 from rfl, Instr.checkKey]
  simp only [Sem.run_bind, run_underlying under_int, Result.andThen_ok, Sem.run_pure]
theorem run_fk (k : Int) (es : List MapEntry) (r : Option (Nat × Value)) (w : World) (h : Instr.findNow (.int .i64) (.int .i64 k) es 0 = some r) : Sem.run Tryd.prog (Instr.findKey 3 (.int .i64 k) es) w = .ok r w := by
  unfold Instr.findKey
  simp only [Sem.run_bind, run_underlying under_int, Result.andThen_ok, h, Sem.run_pure]
theorem run_gm (w : World) (B : Nat) (es : Array MapEntry) (c : Nat) (h : w.heap[B]? = some (.map es c)) : Sem.run Tryd.prog (getObj B) w = .ok (.map es c) w := by
  simp [getObj, Sem.run, h]
theorem run_sm (w : World) (B : Nat) (es : Array MapEntry) (c : Nat) (o : Obj) (h : w.heap[B]? = some (.map es c)) : Sem.run Tryd.prog (setObj B o) w = .ok () (w.putObj B o) := by
  simp [setObj, Sem.run, h, World.putObj]
theorem run_ins (w : World) (B : Nat) (es : Array MapEntry) (c : Nat) (k : Int) (v : Value) (h : w.heap[B]? = some (.map es c)) (hf : Instr.findNow (.int .i64) (.int .i64 k) es.toList 0 = some none) :
    Sem.run Tryd.prog (Instr.mapUpdate 73 (.map (some B)) (.int .i64 k) v) w = .ok () (w.putObj B (.map (es.push { key := .int .i64 k, val := v, born := c }) (c + 1))) := by
  unfold Instr.mapUpdate
  simp only [Sem.run_bind, run_underlying under_map, Result.andThen_ok, run_gm w B es c h, run_ck, run_fk k es.toList none w hf, run_sm w B es c _ h]
/-- a role's look-up in the map of both. -/
theorem run_look (w : World) (B : Nat) (k : Int) (ok : Bool) (r : Option (Nat × Value)) (z : Value) (h : w.heap[B]? = some (.map roleMap 2)) (hf : Instr.findNow (.int .i64) (.int .i64 k) roleMap.toList 0 = some r) (hz : Sem.run Tryd.prog (zeroValue 72) w = .ok z w) :
    Sem.run Tryd.prog (Instr.lookup 73 (.map (some B)) (.int .i64 k) ok) w = .ok (let p := match r with | some (_, v) => (v, true) | none => (z, false); if ok then .tuple #[p.1, .bool p.2] else p.1) w := by
  unfold Instr.lookup
  cases r with
  | none => simp only [Sem.run_bind, run_underlying under_map, Result.andThen_ok, run_gm w B _ _ h, run_ck, run_fk k _ none w hf, hz, Sem.run_pure]
  | some r => simp only [Sem.run_bind, run_underlying under_map, Result.andThen_ok, run_gm w B _ _ h, run_ck, run_fk k _ (some r) w hf, Sem.run_pure]

theorem below_put {B D : Nat} {a w : World} {o : Obj} (h : Below B a w) (hD : B ≤ D) : Below B a (w.putObj D o) :=
  h.trans ⟨rfl, rfl, rfl, by simp [World.putObj], fun k hk => World.putObj_heap_other (by omega)⟩

set_option maxRecDepth 100000 in
set_option maxHeartbeats 4000000 in
theorem roles_any (w : World) : Calls Tryd.prog 62 #[] w fun e w' => e = .returned (.map (some w.heap.size)) ∧ w'.heap[w.heap.size]? = some (.map roleMap 2) ∧ Below w.heap.size w w' := by
  have hmm := @run_makeMap Tryd.prog
  have h0 : (w.alloc (.map #[] 0)).heap[w.heap.size]? = some (.map #[] 0) := by
    show (w.heap.push _)[w.heap.size]? = _
    rw [Array.getElem?_push, if_pos rfl]
  have i1 := run_ins _ w.heap.size #[] 0 1 hostV h0 rfl
  have hs : w.heap.size < (w.alloc (.map #[] 0)).heap.size := by rw [alloc_size]; exact Nat.lt_succ_self _
  have hb1 : Below w.heap.size w (w.alloc (.map #[] 0)) := (Below.refl _ _).alloc (Nat.le_refl _) _
  obtain ⟨w1, hw1⟩ : ∃ w1, w1 = (w.alloc (.map #[] 0)).putObj w.heap.size (.map ((#[] : Array MapEntry).push { key := .int .i64 1, val := hostV, born := 0 }) (0 + 1)) := ⟨_, rfl⟩
  have h1 : w1.heap[w.heap.size]? = some (.map #[{ key := .int .i64 1, val := hostV, born := 0 }] 1) := by rw [hw1]; exact World.putObj_heap_same hs
  have hb2 : Below w.heap.size w w1 := by rw [hw1]; exact below_put hb1 (Nat.le_refl _)
  have hs1 : w.heap.size < w1.heap.size := by rw [hw1]; simp [World.putObj]
  rw [← hw1] at i1
  have i2 := run_ins w1 w.heap.size #[{ key := .int .i64 1, val := hostV, born := 0 }] 1 2 guestV h1 rfl
  obtain ⟨w2, hw2⟩ : ∃ w2, w2 = w1.putObj w.heap.size (.map ((#[{ key := .int .i64 1, val := hostV, born := 0 }] : Array MapEntry).push { key := .int .i64 2, val := guestV, born := 1 }) (1 + 1)) := ⟨_, rfl⟩
  have h2 : w2.heap[w.heap.size]? = some (.map roleMap 2) := by rw [hw2]; exact World.putObj_heap_same hs1
  have hb3 : Below w.heap.size w w2 := by rw [hw2]; exact below_put hb2 (Nat.le_refl _)
  rw [← hw2] at i2
  have H := Lib.hid (show _ ∧ _ from ⟨h2, hb3⟩)
  unfold hostV at i1
  unfold guestV at i2
  clear h0 hs hb1 hw1 h1 hb2 hs1 hw2 h2 hb3
  go_enter Tryd.func62, Tryd.ntmps62
  go_wp2_with fail
  go_ret
  exact ⟨rfl, H.out.1, H.out.2⟩

set_option maxHeartbeats 4000000 in
set_option maxRecDepth 100000 in
theorem eight_any (v : Nat) (hv : v < 9223372036854775808) (w : World) :
    Calls Tryd.prog 70 #[.int .i64 v] w fun e w' => ∃ r, e = .returned r ∧ w'.ownsRow w.heap.size 5 1 r 8 (bl 8 (by8 v)) ∧ Below w.heap.size w w' := by
  have bv : (v : Int) < 9223372036854775808 := by omega
  clear hv
  go_enter Tryd.func70, Tryd.ntmps70
  go_wp2_with fail
  go_loopg [2, 4] 8 (fun g x y w2 => ∃ (r : Value) (i : Nat), x = r ∧ y = .int .i64 i ∧ i + g = 8 ∧ Hid (w2.ownsRow w.heap.size 5 1 r i (bl i (by8 v)) ∧ Below w.heap.size w w2))
  case atStart => exact ⟨_, 0, rfl, rfl, rfl, Lib.hid ⟨World.ownsRow_nil _ _ _ _, Below.refl _ _⟩⟩
  case round =>
    obtain ⟨r, i, rfl, rfl, hi, ho⟩ := hrel
    by_cases h : i < 8
    · have t1 : decide ((i : Int) < 8) = true := by rw [decide_eq_true_eq]; omega
      have t1' : decide (i < 8) = true := by rw [decide_eq_true_eq]; omega
      have b1 : (i : Int) ≤ 7 := by omega
      obtain ⟨s, hs⟩ : ∃ s, s = 56 - 8 * i := ⟨_, rfl⟩
      have e2 : (56 : Int) - 8 * (i : Int) = (s : Int) := by omega
      have b2 : (s : Int) ≤ 56 := by omega
      obtain ⟨q, hq⟩ : ∃ q, q = v / 2 ^ s := ⟨_, rfl⟩
      have e3 : (v : Int) / 2 ^ s = (q : Int) := by rw [hq]; push_cast; rfl
      obtain ⟨z, hz⟩ : ∃ z, z = by8 (v) i := ⟨_, rfl⟩
      have e4 : IntKind.u8.wrap (q : Int) = (z : Int) := by
        rw [hz, by8, ← hs, ← hq]
        simp only [IntKind.wrap, IntKind.bits, IntKind.signed]; simp
      have hzl : z < 256 := by rw [hz]; exact by8_lt _ _
      have HZ := Lib.hid hz
      have HZL := Lib.hid hzl
      have HI := Lib.hid hi
      have H8 := Lib.hid h
      clear hs hq hz hzl hi h
      go_wp2_with (at_builtin; refine wpList_append_b _ rfl (.tmp 7) (.tmp 14) rfl w.heap.size _ i _ rfl (ho.out.1.alloc _) _ 1 1 (fun _ => z) rfl (byte_new _ z HZL.out) (by have := H8.out; omega) (by have := ho.out.2.size; rw [alloc_size]; omega) ?_; intro v2 w2 ho2)
      have e5 : bl i (by8 v) ++ bl 1 (fun _ => z) = bl (i + 1) (by8 v) := by rw [HZ.out]; exact bl_succ i (by8 v)
      rw [e5] at ho2
      go_roundg (8 - (i + 1))
      case rel => exact ⟨_, i + 1, rfl, by go_num, by have := H8.out; omega, Lib.hid ⟨ho2.out.1, (ho.out.2.alloc ho.out.2.size _).trans ho2.out.2⟩⟩
      case measure => have := HI.out; have := H8.out; omega
    · obtain rfl : i = 8 := by omega
      have t1 : decide (((8 : Nat) : Int) < 8) = false := by decide
      clear h hi
      go_wp2_with fail
      go_ret
      exact ⟨_, rfl, ho.out⟩



def pakeT : ByteArray := ⟨#[112, 97, 107, 101]⟩
def codeT : ByteArray := ⟨#[99, 111, 100, 101]⟩
/-- the mask of a role's name. -/
def mkOf (nm : ByteArray) : Nat := ptOf pakeT nm.size (sb nm)
/-- the password of a code. -/
def pwOf (code : Nat) : Nat := scOf codeT 8 (by8 code)
/-- the mask to the power of the password. -/
def maOf (nm : ByteArray) (code : Nat) : Nat := Gp.pw 4611686018427377339 (mkOf nm) (pwOf code)

set_option maxHeartbeats 4000000 in
set_option maxRecDepth 100000 in
theorem masked_any (nm : ByteArray) (fv : Value) (code : Nat) (hc : code < 9223372036854775808) (hnm : nm.size ≤ 300) (w : World) (hT : Tabs w) :
    Calls Tryd.prog 61 #[.agg #[.string nm, fv], .int .i64 code] w fun e w' => e = .returned (.int .i64 (maOf nm code : Nat)) ∧ Below w.heap.size w w' := by
  have HT := Lib.hid hT
  have HC := Lib.hid hc
  have HN := Lib.hid hnm
  clear hT hc hnm
  go_enter Tryd.func61, Tryd.ntmps61
  have hB1 := (Below.refl w.heap.size w).alloc (Nat.le_refl _) (.cells #[.string nm, fv] 72)
  have c1 : (w.alloc (.cells #[.string nm, fv] 72)).cell? ⟨w.heap.size, 0, none⟩ = some (.string nm) := by rw [World.cell?_alloc_new]; rfl
  have s1 := alloc_size w (.cells #[.string nm, fv] 72)
  go_wp2_with fail
  generalize w.alloc (.cells #[.string nm, fv] 72) = w1 at *
  refine (eight_any code HC.out w1).mono ?_
  rintro e w2 ⟨v1, rfl, hr1, hb1⟩
  obtain ⟨p5, c5, rfl, hb5, hc5⟩ := Bytes.own hr1 (fun i hi => bl_get _ _ i hi) (fun i _ => by8_lt _ _)
  have hB2 := hB1.trans (hb1.mono hB1.size)
  have hc2 := (hb1.cell (p := ⟨w.heap.size, 0, none⟩) (by show w.heap.size < w1.heap.size; omega)).trans c1
  have hs2 : w.heap.size < w2.heap.size := by have := hb1.size; omega
  have HS := Lib.hid (scalar_any codeT p5 8 c5 (by8 code) w2 (HT.out.below hB2) hb5 (by decide) (by decide) hc5)
  have HS2 : Hid (Calls Tryd.prog 30 #[.string codeT, .slice p5 8 c5] w2 fun e w' => e = .returned (.int .i64 (pwOf code : Nat)) ∧ Below w2.heap.size w2 w') := HS
  have hpl : pwOf code < 2305843009213688669 := scOf_lt _ _ _
  have hE : Gp.El (mkOf nm) := pt_el _ _ _
  have HX := Lib.hid (fun w => expE hE hpl rfl w)
  obtain ⟨A, hA⟩ : ∃ A, A = Gp.pw 4611686018427377339 (mkOf nm) (pwOf code) := ⟨_, rfl⟩
  rw [← hA] at HX
  have HA : Hid (A = maOf nm code) := Lib.hid hA
  have HMK : Hid (ptOf pakeT nm.size (sb nm) = mkOf nm) := Lib.hid rfl
  generalize pwOf code = k at *
  have HSS := Lib.hid hs2
  clear hr1 hb5 hc5 hb1 hB1 c1 s1 HS hpl hE hA hs2
  go_wp2_with fail
  refine HS2.out.mono ?_
  rintro e w3 ⟨rfl, hb1⟩
  have hB3 := Lib.hid (hB2.trans (hb1.mono hB2.size))
  have hc3 := (hb1.cell (p := ⟨w.heap.size, 0, none⟩) HSS.out).trans hc2
  clear hb1 hB2 hc2 HS2
  go_wp2_with (refine wpList_conv rfl (.tmp 13) rfl nm rfl (by have := HN.out; omega) ?_; intro ct w4 hw4)
  have hB4 := Lib.hid (hB3.out.trans (hw4.out.2.1.mono hB3.out.size))
  have HP := Lib.hid (point_any pakeT _ nm.size ct (sb nm) w4 (HT.out.below hB4.out) hw4.out.1 (by have := HN.out; omega) (by decide) hw4.out.2.2)
  rw [HMK.out] at HP
  clear hw4 hB3 hc3
  generalize mkOf nm = mk at *
  refine HP.out.mono ?_
  rintro e w5 ⟨rfl, hb1⟩
  have hB5 := Lib.hid (hB4.out.trans (hb1.mono hB4.out.size))
  clear hb1 hB4 HP
  go_wp2_with fail
  refine (HX.out _).mono ?_
  rintro e w6 ⟨rfl, hb1⟩
  have hB6 := Lib.hid (hB5.out.trans (hb1.mono hB5.out.size))
  clear hb1 hB5 HX
  go_wp2_with fail
  go_ret
  exact ⟨by rw [← HA.out]; rfl, hB6.out⟩

theorem zero_role (w : World) : Sem.run Tryd.prog (zeroValue 72) w = .ok (.agg #[.string ⟨#[]⟩, .nilFunc]) w := by kernel_rfl
theorem find_none (r : Int) (h1 : r ≠ 1) (h2 : r ≠ 2) : Instr.findNow (.int .i64) (.int .i64 r) roleMap.toList 0 = some none := by
  have e1 : (r == 1) = false := by rw [beq_eq_false_iff_ne]; exact h1
  have e2 : (r == 2) = false := by rw [beq_eq_false_iff_ne]; exact h2
  simp [roleMap, Instr.findNow, Instr.sameNow, e1, e2]
/-- the look-up of a role: its two cells, and whether it is one. -/
theorem role_look (r : Int) : ∃ (sa : ByteArray) (b : Value), (b = .nilFunc ∨ ∃ f, b = .func (.func f) #[] #[]) ∧ ∀ (w : World) (B : Nat), w.heap[B]? = some (.map roleMap 2) →
    Sem.run Tryd.prog (Instr.lookup 73 (.map (some B)) (.int .i64 r) true) w = .ok (.tuple #[.agg #[.string sa, b], .bool (r == 1 || r == 2)]) w := by
  by_cases h1 : r = 1
  · subst h1; exact ⟨_, _, .inr ⟨_, rfl⟩, fun w B h => run_look w B 1 true (some (0, hostV)) _ h rfl (zero_role w)⟩
  · by_cases h2 : r = 2
    · subst h2; exact ⟨_, _, .inr ⟨_, rfl⟩, fun w B h => run_look w B 2 true (some (1, guestV)) _ h rfl (zero_role w)⟩
    · refine ⟨⟨#[]⟩, .nilFunc, .inl rfl, fun w B h => ?_⟩
      have e : (r == 1 || r == 2) = false := by rw [Bool.or_eq_false_iff, beq_eq_false_iff_ne, beq_eq_false_iff_ne]; exact ⟨h1, h2⟩
      rw [e]
      exact run_look w B r true none _ h (find_none r h1 h2) (zero_role w)

theorem roles_some (w : World) : Calls Tryd.prog 62 #[] w fun e w' => ∃ B, e = .returned (.map (some B)) ∧ w'.heap[B]? = some (.map roleMap 2) ∧ Below w.heap.size w w' :=
  (roles_any w).mono fun _ _ h => ⟨_, h⟩
theorem map_alloc {w : World} {B : Nat} {m : Obj} (h : w.heap[B]? = some m) (o : Obj) : (w.alloc o).heap[B]? = some m := by
  rw [Below.heap_alloc _ _ _ (Array.getElem?_eq_some_iff.1 h).1]; exact h
/-- what stands while pake.Check calculates: its side's cells in block D. -/
structure PG (D : Nat) (w : World) (r c x : Int) (W : World) : Prop where
  ge : w.heap.size ≤ D
  below : Below D w W
  obj : W.heap[D]? = some (.cells #[.int .i64 r, .int .i64 c, .int .i64 x] 24)
def PS (D : Nat) (w : World) (r c x : Int) (W : World) : Prop := (W.cell? ⟨D, 0, none⟩ = some (.int .i64 r) ∧ W.cell? ⟨D, 1, none⟩ = some (.int .i64 c) ∧ W.cell? ⟨D, 2, none⟩ = some (.int .i64 x)) ∧ PG D w r c x W
theorem PG.lt {D : Nat} {w W : World} {r c x : Int} (h : PG D w r c x W) : D < W.heap.size := (Array.getElem?_eq_some_iff.1 h.obj).1
theorem PG.all {D : Nat} {w W : World} {r c x : Int} (h : PG D w r c x W) : PS D w r c x W := by
  refine ⟨⟨?_, ?_, ?_⟩, h⟩ <;> simp [World.cell?, h.obj]
theorem PG.first (w : World) (r c x : Int) : PG w.heap.size w r c x (w.alloc (.cells #[.int .i64 r, .int .i64 c, .int .i64 x] 24)) := by
  refine ⟨Nat.le_refl _, (Below.refl _ _).alloc (Nat.le_refl _) _, ?_⟩
  show (w.heap.push _)[w.heap.size]? = _
  rw [Array.getElem?_push, if_pos rfl]
theorem PG.next {D b : Nat} {w W W' : World} {r c x : Int} (h : PG D w r c x W) (hb : Below b W W') (hD : W.heap.size ≤ b) : PG D w r c x W' :=
  ⟨h.1, h.2.trans (hb.mono (by have := h.lt; omega)), by rw [hb.block D (by have := h.lt; omega)]; exact h.3⟩
theorem PG.steps {D b : Nat} {w W W' : World} {r c x : Int} (h : PS D w r c x W) (hb : Below b W W') (hD : W.heap.size ≤ b) : PS D w r c x W' := (h.2.next hb hD).all
theorem PG.renew {D : Nat} {w W : World} {r c x : Int} {a b a' b' : Value} {t t' : TypeId} (h : PS D w r c x (W.alloc (.cells #[a, b] t))) : PS D w r c x (W.alloc (.cells #[a', b'] t')) := by
  have h := h.2
  have hl := h.lt
  rw [alloc_size] at hl
  have hne : D ≠ W.heap.size := by
    intro e
    have h3 := h.obj
    rw [e] at h3
    have h4 : (W.alloc (.cells #[a, b] t)).heap[W.heap.size]? = some (.cells #[a, b] t) := by
      show (W.heap.push _)[W.heap.size]? = _
      rw [Array.getElem?_push, if_pos rfl]
    rw [h4] at h3
    have h5 := Option.some.inj h3
    simp at h5
  have hb := h.below
  refine PG.all ⟨h.ge, ⟨hb.os, hb.tape, hb.output, by rw [alloc_size]; have := h.ge; omega, fun k hk => ?_⟩, ?_⟩
  · rw [Below.heap_alloc _ _ _ (by omega), ← Below.heap_alloc W (.cells #[a, b] t) k (by omega)]; exact hb.block k hk
  · rw [Below.heap_alloc _ _ _ (by omega), ← Below.heap_alloc W (.cells #[a, b] t) D (by omega)]; exact h.obj
/-- a block of two cells, made behind the side's. -/
structure Two (D A : Nat) (a b : Value) (W : World) : Prop where
  gt : D < A
  obj : W.heap[A]? = some (.cells #[a, b] 72)
def TwoS (D A : Nat) (a b : Value) (W : World) : Prop :=
  (W.cell? ⟨A, 0, none⟩ = some a ∧ W.cell? ⟨A, 1, none⟩ = some b) ∧ (W.frozen? ⟨A, 0, none⟩ = false ∧ W.frozen? ⟨A, 1, none⟩ = false) ∧ Two D A a b W
theorem Two.all {D A : Nat} {a b : Value} {W : World} (h : Two D A a b W) : TwoS D A a b W := by
  refine ⟨⟨?_, ?_⟩, ⟨?_, ?_⟩, h⟩ <;> simp [World.cell?, World.frozen?, h.obj]
theorem Two.first {D b : Nat} {w X W' : World} {H : Array Obj} {r c x : Int} {a d : Value} (h : PS D w r c x X) (hb : Below b X W') (hX : X.heap = H.push (.cells #[a, d] 72)) (hD : X.heap.size ≤ b) : TwoS D H.size a d W' := by
  have h4 : X.heap[H.size]? = some (.cells #[a, d] 72) := by
    rw [hX, Array.getElem?_push, if_pos rfl]
  have hl := h.2.lt
  rw [hX, Array.size_push] at hl hD
  refine Two.all ⟨?_, by rw [hb.block _ (by omega)]; exact h4⟩
  have hne : D ≠ H.size := by
    intro e
    have h3 := h.2.obj
    rw [e, h4] at h3
    have h5 := Option.some.inj h3
    simp at h5
  omega
theorem PG.put2 {D A : Nat} {w W : World} {r c x : Int} {a b a' b' : Value} (k : TwoS D A a b W) (h : PS D w r c x W) : PS D w r c x ((W.setCell ⟨A, 0, none⟩ a').setCell ⟨A, 1, none⟩ b') := by
  have hA := k.2.2.gt
  refine PG.all ⟨h.2.1, (h.2.2.setCell (p := ⟨A, 0, none⟩) (Nat.le_of_lt hA) _).setCell (p := ⟨A, 1, none⟩) (Nat.le_of_lt hA) _, ?_⟩
  rw [Below.heap_setCell _ _ _ _ (by show D ≠ A; omega), Below.heap_setCell _ _ _ _ (by show D ≠ A; omega)]
  exact h.2.3

/-- a valid side. -/
def okSide (r c x : Int) : Bool := (r == 1 || r == 2) && decide (0 ≤ c) && decide (c < 1000000) && decide (1 ≤ x) && decide (x < 2305843009213688669)
def pChk (r c x : Int) : Int := if okSide r c x = true then 0 else 100

theorem pChk_ok {r c x : Int} (h1 : (r == 1 || r == 2) = true) (h2 : 0 ≤ c) (h3 : c < 1000000) (h4 : 1 ≤ x) (h5 : x < 2305843009213688669) : pChk r c x = 0 := by
  unfold pChk okSide
  rw [h1, decide_eq_true h2, decide_eq_true h3, decide_eq_true h4, decide_eq_true h5, if_pos (by rfl)]
theorem pChk_no {r c x : Int} (h : (r == 1 || r == 2) = true → 0 ≤ c → c < 1000000 → 1 ≤ x → x < 2305843009213688669 → False) : pChk r c x = 100 := by
  unfold pChk
  rw [if_neg]
  intro e
  unfold okSide at e
  simp only [Bool.and_eq_true, decide_eq_true_eq] at e
  exact h e.1.1.1.1 e.1.1.1.2 e.1.1.2 e.1.2 e.2

set_option maxHeartbeats 4000000 in
set_option maxRecDepth 100000 in
theorem pcheck_any (r c x : Int) (w : World) :
    Calls Tryd.prog 41 #[.agg #[.int .i64 r, .int .i64 c, .int .i64 x]] w fun e w' => e = .returned (.int .i64 (pChk r c x)) ∧ Below w.heap.size w w' := by
  have HR := Lib.hid (fun w => roles_some w)
  obtain ⟨a, b, hb, hl⟩ := role_look r
  obtain ⟨m, hm⟩ : ∃ m, m = (r == 1 || r == 2) := ⟨_, rfl⟩
  rw [← hm] at hl
  have HL := Lib.hid hl
  have HM := Lib.hid hm
  clear hl hm
  rcases hb with rfl | ⟨fq, rfl⟩
  all_goals
    go_enter Tryd.func41, Tryd.ntmps41
    go_upto_region 1 with fail
    have hG := PG.first w r c x
    generalize w.alloc (.cells #[.int .i64 r, .int .i64 c, .int .i64 x] 24) = w1 at *
    generalize hD : w.heap.size = D at *
    have hS := hG.all
    unfold PS at hS
    go_region_held3 (fun w' => (w'.cell? ⟨D, 0, none⟩ = some (.int .i64 r) ∧ w'.cell? ⟨D, 1, none⟩ = some (.int .i64 c) ∧ w'.cell? ⟨D, 2, none⟩ = some (.int .i64 x)) ∧ PG D w r c x w')
      (first
        | assumption
        | (refine PG.steps ?_ (Below.refl _ _).drew (Nat.le_refl _); assumption)
        | (refine PG.steps ?_ hb1 (Nat.le_refl _); assumption)
        | (refine PG.steps ?_ ((Below.refl _ _).alloc (Nat.le_refl _) _).drew (Nat.le_refl _); assumption)
        | (refine PG.steps ?_ ((Below.refl _ _).alloc (Nat.le_refl _) _) (Nat.le_refl _); assumption)
        | (exact PG.renew (by assumption))
        | (exact PG.put2 (by assumption) (by assumption)))
      (first
        | (go_at_call 62; refine (HR.out _).mono ?_; rintro e w' ⟨Bm, rfl, hmap, hb1⟩; have hl1 := HL.out _ _ hmap; have hl2 := fun o => HL.out (w'.alloc o) _ (map_alloc hmap o); (try (have hz := Two.first (by assumption) hb1 rfl (Nat.le_refl _); unfold TwoS at hz))))
    all_goals
      rename_i hH
      have hP := hH.2
      clear hG hS hl1 hl2 hmap hb1
      try clear hz
      go_wp2_with fail
      all_goals
        go_ret
        have hm := HM.out
        refine ⟨?_, ?_⟩
        · first
            | (rw [pChk_ok (by rw [← hm]; assumption) (by omega) (by omega) (by omega) (by omega)]; rfl)
            | (rw [pChk_no (fun h1 h2 h3 h4 h5 => by first | omega | (rw [← hm] at h1; contradiction))]; rfl)
        · first
            | exact hP.below
            | (rw [hD]; exact hP.below)
end Go.Proofs.YtelikpkekloffaaDoor
