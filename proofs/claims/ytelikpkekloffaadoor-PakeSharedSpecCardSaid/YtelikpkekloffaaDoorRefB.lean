/- The reference's hash function, a block, walked. -/
import Derived.Test.YtelikpkekloffaaDoorRefA
import Derived.Test.YtelikpkekloffaaDoorDigC
import Derived.Laws.Tables
import Derived.Deep.RegionHeld3
namespace Go.Proofs.YtelikpkekloffaaDoor
open Go.RowKit

theorem wpList_build {P : Program} {w : World} {ops : Array Oper} {rest : List Oper} {o : Oper} {a : Act} {Q : Exit → Act → World → Prop} (hgd : o.guard = none) (t : TypeId) (parts : Array (Nat × Operand)) (hop : o.op = .build t parts)
    (cells : Array Value) (h : P.built t (parts.map fun x => (x.1, a.eval x.2)).toList = some cells) (hK : wpList P ops Q rest (a.put o.dst (.agg cells)) w) : wpList P ops Q (o :: rest) a w := by
  refine wpList_plain hgd fun K hK' => ?_
  have hrun := run_build (P := P) w t (parts.map fun x => (x.1, a.eval x.2)) cells h
  unfold Oper.wp
  simp only [execOp, hop, Sem.run_bind, hrun, Result.andThen_ok, Sem.run_pure]
  exact hK' _ _ hK

def kvL : List Value := Sha.table.map fun (n : Nat) => Value.int .u32 (n : Int)
def kv : Value := .agg kvL.toArray
theorem kvL_length : kvL.length = 64 := by kernel_rfl
theorem kvL_get (i : Nat) (h : i < 64) : kvL[i]? = some (.int .u32 (Sha.kk i : Int)) := by
  have hl : Sha.table.length = 64 := by decide
  unfold kvL
  rw [List.getElem?_map, List.getElem?_eq_getElem (by omega)]
  show some (Value.int .u32 ((Sha.table[i]'(by omega) : Nat) : Int)) = _
  unfold Sha.kk
  rw [List.getD_eq_getElem?_getD, List.getElem?_eq_getElem (by omega)]
  rfl
theorem kvL_one : kvL.toArray.all (·.oneCell') = true := by kernel_rfl

set_option maxRecDepth 100000 in
set_option maxHeartbeats 4000000 in
theorem rnumbers_any (w : World) : Calls Tryd.prog 120 #[] w fun e w' => e = .returned kv ∧ Below w.heap.size w w' := by
  go_enter Tryd.func120, Tryd.ntmps120
  go_upto_region 1 with fail
  change Code.wp Tryd.prog _ _ _ (w.alloc (.cells (List.replicate 64 (Value.int .u32 0)).toArray 116))
  have hrow := row_zeros w 116
  have hB := (Below.refl w.heap.size w).alloc (Nat.le_refl _) (.cells (List.replicate 64 (Value.int .u32 0)).toArray 116)
  generalize w.alloc (.cells (List.replicate 64 (Value.int .u32 0)).toArray 116) = wb at *
  have HR := Lib.hid hrow
  have HB := Lib.hid hB
  have hth : wb.there w.heap.size 0 kvL.length := fun j hj => by
    rw [kvL_length] at hj
    exact ⟨by rw [hrow.cell j hj]; rfl, hrow.free j hj⟩
  have HT := Lib.hid hth
  clear hrow hB hth
  go_wp2_with first
    | (refine wpList_build rfl 116 _ rfl kvL.toArray (by kernel_rfl) ?_)
    | (refine wpList_store_mid rfl 116 (.tmp 0) (.tmp 1) rfl w.heap.size 0 kvL.toArray rfl rfl HT.out (by kernel_rfl) kvL_one ?_)
  exact bodyPost_ret (v := kv) (results_cell rfl rfl (run_loadVar_mid _ w.heap.size 0 116 kvL (.array 64 101) (World.rangeAt_setCells_same wb _ 0 kvL HT.out) (by kernel_rfl) rfl (by kernel_rfl))) rfl ⟨rfl, below_cells (Nat.le_refl _) _ _ _ HB.out⟩

theorem there_zeros (w : World) (T : TypeId) : (w.alloc (.cells (List.replicate 64 (Value.int .u32 0)).toArray T)).there w.heap.size 0 (List.replicate 64 (Value.int .u32 0)).toArray.size := fun j hj => by
  have hj : j < 64 := by simpa using hj
  have h := row_zeros w T
  exact ⟨by rw [h.cell j hj]; rfl, h.free j hj⟩
theorem there64 (w : World) (T : TypeId) (l : List Value) (hl : l.length = 64) : (w.alloc (.cells (List.replicate 64 (Value.int .u32 0)).toArray T)).there w.heap.size 0 l.toArray.size := fun j hj => by
  have hj : j < 64 := by rw [List.size_toArray, hl] at hj; exact hj
  have h := row_zeros w T
  exact ⟨by rw [h.cell j hj]; rfl, h.free j hj⟩
theorem row_store64 (w : World) (B : Nat) (l : List Value) (g : Nat → Int) {f : Nat → Int} (h : Row w B 0 64 .u32 f) (hl : ∀ i, i < 64 → l[i]? = some (.int .u32 (g i))) (hn : l.length = 64) : Row (w.setCells B 0 l) B 0 64 .u32 g := by
  have ht : w.there B 0 l.length := fun j hj => by
    rw [hn] at hj
    exact ⟨by rw [h.cell j hj]; rfl, h.free j hj⟩
  have h1 := World.rangeAt_setCells_same w B 0 l ht
  refine ⟨fun i hi => h1 i _ (hl i hi), fun i hi => ?_⟩
  rw [World.frozen?_setCells]; exact h.free i hi
theorem two_keep {W : World} {B i j t : Nat} {x y v : Value} (h1 : W.cell? ⟨B, i, none⟩ = some x) (h2 : W.cell? ⟨B, j, none⟩ = some y) (n1 : ¬ i = t) (n2 : ¬ j = t) :
    (W.setCell ⟨B, t, none⟩ v).drew.drew.drew.drew.drew.cell? ⟨B, i, none⟩ = some x ∧ (W.setCell ⟨B, t, none⟩ v).drew.drew.drew.drew.drew.cell? ⟨B, j, none⟩ = some y := by
  refine ⟨?_, ?_⟩
  · show (W.setCell ⟨B, t, none⟩ v).cell? ⟨B, i, none⟩ = some x
    rw [World.cell?_setCell_other _ _ _ _ (fun e => n1 (by injection e with _ e2; omega))]; exact h1
  · show (W.setCell ⟨B, t, none⟩ v).cell? ⟨B, j, none⟩ = some y
    rw [World.cell?_setCell_other _ _ _ _ (fun e => n2 (by injection e with _ e2; omega))]; exact h2
theorem ror_q (x n : Nat) (k : Int) (hk : k = (n : Int)) (h1 : 1 ≤ n) (h2 : n ≤ 31) (hx : x < 4294967296) (w : World) :
    Calls Tryd.prog 119 #[.int .u32 x, .int .i64 k] w fun e w' => e = .returned (.int .u32 (Sha.rr n x : Nat)) ∧ ∃ m, w' = w.drewN m :=
  (ror_lit x n k hk h1 h2 hx w).mono fun _ _ ⟨he, hw⟩ => ⟨he, 1, hw⟩
/-- a state as a value. -/
def s8L (s : Sha.S8) : List Value := [.int .u32 s.a, .int .u32 s.b, .int .u32 s.c, .int .u32 s.d, .int .u32 s.e, .int .u32 s.f, .int .u32 s.g, .int .u32 s.h]

theorem i8size : (Tryd.prog.info? 102).map (·.size) = some 8 := by kernel_rfl
theorem u8row : Tryd.prog.underlying 102 = some (.array 8 101) := by kernel_rfl
theorem s8_one (x : Sha.S8) : (s8L x).toArray.all (·.oneCell') = true := all_oneCell_toArray fun v hv => by
  simp only [s8L, List.mem_cons, List.not_mem_nil, or_false] at hv
  rcases hv with rfl | rfl | rfl | rfl | rfl | rfl | rfl | rfl <;> rfl

set_option maxRecDepth 100000 in
set_option maxHeartbeats 4000000 in
theorem rblock_any (s : Sha.S8) (hs : s.ok) (B off : Nat) (cap : Nat) (f : Nat → Nat) (hf : ∀ i, f i < 256) (hcap : 64 ≤ cap) (w : World) (hlt : B < w.heap.size) (hc : Reads w B off 64 .u8 (fun i => (f i : Int))) :
    Calls Tryd.prog 114 #[.agg (s8L s).toArray, .slice (some ⟨B, off, none⟩) 64 cap] w fun e w' =>
      e = .returned (.agg (s8L (Sha.blk Sha.kk (fun t => Sha.be4 f (4 * t)) s)).toArray) ∧ Below w.heap.size w w' := by
  have HS := Lib.hid hs
  have HF := Lib.hid hf
  have HB := Lib.hid hc
  have HL := Lib.hid hlt
  have b1 : (64 : Int) ≤ cap := by omega
  clear hs hf hc hlt hcap
  unfold s8L
  go_enter Tryd.func114, Tryd.ntmps114
  go_upto_region 1 with fail
  have hrS : Row ((w.alloc (.cells #[.int .u32 s.a, .int .u32 s.b, .int .u32 s.c, .int .u32 s.d, .int .u32 s.e, .int .u32 s.f, .int .u32 s.g, .int .u32 s.h] 102)).alloc (.cells #[.int .u32 0, .int .u32 0, .int .u32 0, .int .u32 0, .int .u32 0, .int .u32 0, .int .u32 0, .int .u32 0] 102)) w.heap.size 0 8 .u32 (fun i => (s.get i : Int)) :=
    (row_list w [(s.a : Int), s.b, s.c, s.d, s.e, s.f, s.g, s.h] 102 8 .u32 _ (fun i hi => s8_list s i hi)).alloc (by rw [alloc_size]; omega) _
  have hrR : Row ((w.alloc (.cells #[.int .u32 s.a, .int .u32 s.b, .int .u32 s.c, .int .u32 s.d, .int .u32 s.e, .int .u32 s.f, .int .u32 s.g, .int .u32 s.h] 102)).alloc (.cells #[.int .u32 0, .int .u32 0, .int .u32 0, .int .u32 0, .int .u32 0, .int .u32 0, .int .u32 0, .int .u32 0] 102)) (w.heap.size + 1) 0 8 .u32 (fun _ => 0) := by
    have h := row_list (w.alloc (.cells #[.int .u32 s.a, .int .u32 s.b, .int .u32 s.c, .int .u32 s.d, .int .u32 s.e, .int .u32 s.f, .int .u32 s.g, .int .u32 s.h] 102)) [0, 0, 0, 0, 0, 0, 0, 0] 102 8 .u32 (fun _ => 0) (fun i hi => by
      have all : ∀ j : Fin 8, ([0, 0, 0, 0, 0, 0, 0, 0] : List Int)[j.val]? = some 0 := by decide
      exact all ⟨i, hi⟩)
    rw [alloc_size] at h
    exact h
  have hB2 : Below w.heap.size w ((w.alloc (.cells #[.int .u32 s.a, .int .u32 s.b, .int .u32 s.c, .int .u32 s.d, .int .u32 s.e, .int .u32 s.f, .int .u32 s.g, .int .u32 s.h] 102)).alloc (.cells #[.int .u32 0, .int .u32 0, .int .u32 0, .int .u32 0, .int .u32 0, .int .u32 0, .int .u32 0, .int .u32 0] 102)) :=
    ((Below.refl _ _).alloc (Nat.le_refl _) _).alloc (by rw [alloc_size]; omega) _
  have hs2 : ((w.alloc (.cells #[.int .u32 s.a, .int .u32 s.b, .int .u32 s.c, .int .u32 s.d, .int .u32 s.e, .int .u32 s.f, .int .u32 s.g, .int .u32 s.h] 102)).alloc (.cells #[.int .u32 0, .int .u32 0, .int .u32 0, .int .u32 0, .int .u32 0, .int .u32 0, .int .u32 0, .int .u32 0] 102)).heap.size = w.heap.size + 2 := by rw [alloc_size, alloc_size]
  generalize (w.alloc (.cells #[.int .u32 s.a, .int .u32 s.b, .int .u32 s.c, .int .u32 s.d, .int .u32 s.e, .int .u32 s.f, .int .u32 s.g, .int .u32 s.h] 102)).alloc (.cells #[.int .u32 0, .int .u32 0, .int .u32 0, .int .u32 0, .int .u32 0, .int .u32 0, .int .u32 0, .int .u32 0] 102) = w2 at *
  have HRS := Lib.hid hrS
  have HRR := Lib.hid hrR
  have HB2 := Lib.hid hB2
  have HS2 := Lib.hid hs2
  clear hrS hrR hB2 hs2
  obtain ⟨zs, hzs⟩ : ∃ zs : List Value, zs = List.replicate 64 (Value.int .u32 0) := ⟨_, rfl⟩
  have HZS := Lib.hid hzs
  have hbz : Tryd.prog.built 116 [] = some zs.toArray := by rw [hzs]; kernel_rfl
  have hth : (w2.alloc (.cells (List.replicate 64 (Value.int .u32 0)).toArray 116)).there w2.heap.size 0 zs.toArray.size := by rw [hzs]; exact there_zeros w2 _
  have hz64 : (Tryd.prog.info? 116).map (·.size) = some zs.toArray.size := by rw [hzs]; kernel_rfl
  have hz1 : zs.toArray.all (·.oneCell') = true := by rw [hzs]; kernel_rfl
  have HBZ := Lib.hid hbz
  have HTH := Lib.hid hth
  have HZ6 := Lib.hid hz64
  have HZ1 := Lib.hid hz1
  clear hzs hbz hth hz64 hz1
  go_wp2_with first
    | (refine wpList_build rfl 116 #[] rfl zs.toArray (by rw [Array.map_empty]; exact HBZ.out) ?_)
    | (refine wpList_store_mid rfl 116 (.tmp 5) (.tmp 22) rfl w2.heap.size 0 zs.toArray rfl rfl HTH.out HZ6.out HZ1.out ?_)
  change Code.wp Tryd.prog _ _ _ ((w2.alloc (.cells (List.replicate 64 (Value.int .u32 0)).toArray 116)).setCells w2.heap.size 0 zs)
  have hrow := row_store64 (w2.alloc (.cells (List.replicate 64 (Value.int .u32 0)).toArray 116)) w2.heap.size zs (fun _ => 0) (row_zeros w2 116) (fun i hi => by rw [HZS.out, List.getElem?_replicate, if_pos hi]) (by rw [HZS.out, List.length_replicate])
  have hfr : Fr Nowhere w2 ((w2.alloc (.cells (List.replicate 64 (Value.int .u32 0)).toArray 116)).setCells w2.heap.size 0 zs) := Fr.of_below (below_cells (Nat.le_refl _) _ _ _ ((Below.refl _ _).alloc (Nat.le_refl _) _))
  have hsz : w2.heap.size < ((w2.alloc (.cells (List.replicate 64 (Value.int .u32 0)).toArray 116)).setCells w2.heap.size 0 zs).heap.size := Nat.lt_of_lt_of_le (by rw [World.size_alloc]; exact Nat.lt_succ_self _) (below_cells (Nat.le_refl _) zs 0 _ (Below.refl w2.heap.size (w2.alloc (.cells (List.replicate 64 (Value.int .u32 0)).toArray 116)))).size
  generalize (w2.alloc (.cells (List.replicate 64 (Value.int .u32 0)).toArray 116)).setCells w2.heap.size 0 zs = wb at *
  have HR0 := Lib.hid hrow
  have HF0 := Lib.hid hfr
  have HSZ := Lib.hid hsz
  clear hrow hfr hsz
  obtain ⟨m, hm⟩ : ∃ m : Nat → Nat, m = fun t => Sha.be4 f (4 * t) := ⟨_, rfl⟩
  have HM := Lib.hid hm
  have hml : ∀ t, m t < 4294967296 := fun t => by rw [hm]; exact Sha.be4_lt HF.out _
  have HML := Lib.hid hml
  clear hm hml
  go_loopg [6] 16 (fun g x wr => ∃ t : Nat, t + g = 16 ∧ x = .int .i64 t ∧ Hid (Fr Nowhere w2 wr) ∧ Hid (wb.heap.size ≤ wr.heap.size) ∧ Hid (Row wr w2.heap.size 0 64 .u32 (fun j => if j < t then (m j : Int) else 0)))
  case atStart => exact ⟨0, rfl, rfl, HF0, Lib.hid (Nat.le_refl _), Lib.hid (HR0.out.congr fun i _ => by rw [if_neg (Nat.not_lt_zero _)])⟩
  case round =>
    obtain ⟨t, ht, rfl, hF, hS, hR⟩ := hrel
    by_cases h : t < 16
    · have t1 : decide ((t : Int) < 16) = true := by rw [decide_eq_true_eq]; omega
      have t1' : decide (t < 16) = true := by rw [decide_eq_true_eq]; exact h
      have q1 : (t : Int) ≤ 15 := by omega
      have hrd : Reads wr B off 64 .u8 (fun i => (f i : Int)) := (HB.out.below HB2.out HL.out).below hF.out.nowhere (by have := HL.out; have := HS2.out; omega)
      have hc := hR.out.cell t (by omega)
      have hfz := hR.out.free t (by omega)
      rw [Nat.zero_add] at hc hfz
      obtain ⟨old, ho⟩ : ∃ old, wr.cell? ⟨w2.heap.size, t, none⟩ = some (.int .u32 old) := ⟨_, hc⟩
      have HT := Lib.hid ht
      have hv : Sha.be4 (fun i => f (4 * t + i)) 0 = m t := by rw [be4_shift, HM.out]
      have c1 := rword_any B (off + 4 * t) (cap - 4 * t) (fun i => f (4 * t + i)) (fun i _ => HF.out _) wr (hrd.sub (4 * t) 4 (by omega))
      rw [hv] at c1
      have C1 := Lib.hid c1
      clear hrd ht hc c1 hv
      go_wp2_with fail
      refine C1.out.mono ?_
      rintro e w1 ⟨rfl, rfl⟩
      have hF2 := Lib.hid hF.out.drew
      have hR2 := Lib.hid hR.out.drew
      have hS2 : Hid (wb.heap.size ≤ wr.drew.heap.size) := hS
      have ho2 : wr.drew.cell? ⟨w2.heap.size, t, none⟩ = some (.int .u32 old) := ho
      have hfz2 : wr.drew.frozen? ⟨w2.heap.size, t, none⟩ = false := hfz
      clear hF hR hS ho hfz C1
      generalize wr.drew = w1 at *
      go_wp2_with fail
      go_roundg (16 - (t + 1))
      case rel =>
        have hF' := hF2.out.setCell w2.heap.size t (.int .u32 (m t : Int)) (fun h => absurd h (Nat.lt_irrefl _))
        have hR' := hR2.out.set (i := t) (by omega) (m t : Int)
        rw [Nat.zero_add] at hR'
        refine ⟨t + 1, by have := HT.out; omega, by go_num, Lib.hid hF', Lib.hid (by rw [World.size_setCell]; exact hS2.out), Lib.hid (hR'.congr fun j hj => ?_)⟩
        by_cases e : j = t
        · subst e; rw [if_pos rfl, if_pos (Nat.lt_succ_self _)]
        · rw [if_neg e]
          by_cases e' : j < t
          · rw [if_pos e', if_pos (by omega)]
          · rw [if_neg e', if_neg (by omega)]
      case measure => have := HT.out; omega
    · obtain rfl : t = 16 := by omega
      have t1 : decide (((16 : Nat) : Int) < 16) = false := by decide
      have hR' : Row wr w2.heap.size 0 64 .u32 (fun j => if j < 16 then (Sha.wt m j : Int) else 0) := hR.out.congr fun j hj => by
        by_cases e : j < 16
        · rw [if_pos e, if_pos e, Sha.wt_lo e]
        · rw [if_neg e, if_neg e]
      have HR := Lib.hid hR'
      clear ht h hR' HR0 HF0 hR
      go_wp2_with fail
      have hF' := hF.out
      obtain ⟨wc, hwc⟩ : ∃ wc, wc = wr := ⟨_, rfl⟩
      subst hwc
      go_loopg [7] 48 (fun g x wr => ∃ t : Nat, t + g = 64 ∧ 16 ≤ t ∧ x = .int .i64 t ∧ Hid (Fr Nowhere w2 wr) ∧ Hid (wb.heap.size ≤ wr.heap.size) ∧ Hid (Row wr w2.heap.size 0 64 .u32 (fun j => if j < t then (Sha.wt m j : Int) else 0)))
      case atStart => exact ⟨16, rfl, Nat.le_refl _, rfl, hF, hS, HR⟩
      case round =>
        clear hF hS HR hF'
        obtain ⟨t, ht, ht16, rfl, hF, hS, hR⟩ := hrel
        by_cases h : t < 64
        · have t1 : decide ((t : Int) < 64) = true := by rw [decide_eq_true_eq]; omega
          obtain ⟨i15, h15⟩ : ∃ i, i = t - 15 := ⟨_, rfl⟩
          obtain ⟨i2, h2⟩ : ∃ i, i = t - 2 := ⟨_, rfl⟩
          obtain ⟨i16, h16⟩ : ∃ i, i = t - 16 := ⟨_, rfl⟩
          obtain ⟨i7, h7⟩ : ∃ i, i = t - 7 := ⟨_, rfl⟩
          have q15 : (t : Int) - 15 = (i15 : Int) := by omega
          have q2 : (t : Int) - 2 = (i2 : Int) := by omega
          have q16 : (t : Int) - 16 = (i16 : Int) := by omega
          have q7 : (t : Int) - 7 = (i7 : Int) := by omega
          have r15 : (i15 : Int) < 64 := by omega
          have r2 : (i2 : Int) < 64 := by omega
          have r16 : (i16 : Int) < 64 := by omega
          have r7 : (i7 : Int) < 64 := by omega
          have r0 : (t : Int) < 64 := by omega
          have n16 : ¬ i16 = t := by omega
          have n7 : ¬ i7 = t := by omega
          have c15 := hR.out.cell i15 (by omega)
          have c2 := hR.out.cell i2 (by omega)
          have c16 := hR.out.cell i16 (by omega)
          have c7 := hR.out.cell i7 (by omega)
          have c0 := hR.out.cell t h
          have z0 := hR.out.free t h
          rw [if_pos (by omega), Nat.zero_add] at c15 c2 c16 c7
          rw [Nat.zero_add] at c0 z0
          obtain ⟨old, ho⟩ : ∃ old, wr.cell? ⟨w2.heap.size, t, none⟩ = some (.int .u32 old) := ⟨_, c0⟩
          have hw := Sha.wt_hi (m := m) (t := t) (by omega)
          rw [← h15, ← h2, ← h16, ← h7] at hw
          have l15 := Sha.wt_lt (m := m) (fun t _ => HML.out t) i15
          have l2 := Sha.wt_lt (m := m) (fun t _ => HML.out t) i2
          have l16 := Sha.wt_lt (m := m) (fun t _ => HML.out t) i16
          have l7 := Sha.wt_lt (m := m) (fun t _ => HML.out t) i7
          obtain ⟨v, hv⟩ : ∃ v, v = Sha.wt m t := ⟨_, rfl⟩
          rw [← hv] at hw
          generalize Sha.wt m i15 = x15 at *
          generalize Sha.wt m i2 = x2 at *
          generalize Sha.wt m i16 = x16 at *
          generalize Sha.wt m i7 = x7 at *
          have HV := Lib.hid hv
          have HT := Lib.hid (show _ ∧ _ from ⟨ht, ht16⟩)
          have H64 := Lib.hid h
          have a7 := fun w => ror_lit x15 7 7 rfl (by decide) (by decide) l15 w
          have a18 := fun w => ror_lit x15 18 18 rfl (by decide) (by decide) l15 w
          have a17 := fun w => ror_lit x2 17 17 rfl (by decide) (by decide) l2 w
          have a19 := fun w => ror_lit x2 19 19 rfl (by decide) (by decide) l2 w
          have k1 := bits_xor32 _ _ (Sha.rr_lt 7 x15 l15) (Sha.rr_lt 18 x15 l15)
          have k2 := bits_xor32 (Sha.rr 7 x15 ^^^ Sha.rr 18 x15) (x15 / 8) (Sha.xor_lt (Sha.rr_lt 7 x15 l15) (Sha.rr_lt 18 x15 l15)) (by omega)
          have k3 := bits_xor32 _ _ (Sha.rr_lt 17 x2 l2) (Sha.rr_lt 19 x2 l2)
          have k4 := bits_xor32 (Sha.rr 17 x2 ^^^ Sha.rr 19 x2) (x2 / 1024) (Sha.xor_lt (Sha.rr_lt 17 x2 l2) (Sha.rr_lt 19 x2 l2)) (by omega)
          have k5 : (x15 : Int) / 8 = ((x15 / 8 : Nat) : Int) := by omega
          have k6 : (x2 : Int) / 1024 = ((x2 / 1024 : Nat) : Int) := by omega
          have g1 : (Sha.rr 7 x15 ^^^ Sha.rr 18 x15) ^^^ (x15 / 8) = Sha.g0 x15 := rfl
          have g2 : (Sha.rr 17 x2 ^^^ Sha.rr 19 x2) ^^^ (x2 / 1024) = Sha.g1 x2 := rfl
          rw [g1] at k2
          rw [g2] at k4
          clear g1 g2
          have s1 := ad_cast x16 (Sha.g0 x15)
          have s2 := ad_cast (Sha.ad x16 (Sha.g0 x15)) x7
          have s3 := ad_cast (Sha.ad (Sha.ad x16 (Sha.g0 x15)) x7) (Sha.g1 x2)
          rw [← hw] at s3
          clear hw
          generalize Sha.ad (Sha.ad x16 (Sha.g0 x15)) x7 = y2 at *
          generalize Sha.ad x16 (Sha.g0 x15) = y1 at *
          generalize Sha.rr 7 x15 ^^^ Sha.rr 18 x15 = z1 at *
          generalize Sha.rr 17 x2 ^^^ Sha.rr 19 x2 = z2 at *
          generalize Sha.rr 7 x15 = p7 at *
          generalize Sha.rr 18 x15 = p18 at *
          generalize Sha.rr 17 x2 = p17 at *
          generalize Sha.rr 19 x2 = p19 at *
          generalize Sha.g0 x15 = q0 at *
          generalize Sha.g1 x2 = q1 at *
          generalize x15 / 8 = d3 at *
          generalize x2 / 1024 = d10 at *
          have A7 := Lib.hid a7
          have A18 := Lib.hid a18
          have A17 := Lib.hid a17
          have A19 := Lib.hid a19
          clear a7 a18 a17 a19
          clear c0 hv ht ht16 h h15 h2 h16 h7 l15 l2 l16 l7
          have wr16 : IntKind.i64.wrap (i16 : Int) = i16 := by rw [IntKind.wrap_i64]; omega
          have wr7 : IntKind.i64.wrap (i7 : Int) = i7 := by rw [IntKind.wrap_i64]; omega
          go_upto_region 11 with fail
          go_region_held3 (fun w' => w'.cell? ⟨w2.heap.size, i16, none⟩ = some (.int .u32 x16) ∧ w'.cell? ⟨w2.heap.size, i7, none⟩ = some (.int .u32 x7))
            (first | with_reducible exact two_keep c16 c7 n16 n7 | exact ⟨c16, c7⟩)
            (first
              | (go_at_call 119; with_reducible refine (A7.out _).mono ?_; rintro e w' ⟨rfl, rfl⟩)
              | (go_at_call 119; with_reducible refine (A18.out _).mono ?_; rintro e w' ⟨rfl, rfl⟩)
              | (go_at_call 119; with_reducible refine (A17.out _).mono ?_; rintro e w' ⟨rfl, rfl⟩)
              | (go_at_call 119; with_reducible refine (A19.out _).mono ?_; rintro e w' ⟨rfl, rfl⟩))
          have e0 : (wr.setCell ⟨w2.heap.size, t, none⟩ (.int .u32 (v : Int))).drew.drew.drew.drew.drew = (wr.setCell ⟨w2.heap.size, t, none⟩ (.int .u32 (v : Int))).drewN 5 := rfl
          rw [e0]
          have hF' := (hF.out.setCell w2.heap.size t (.int .u32 (v : Int)) (fun h => absurd h (Nat.lt_irrefl _))).drewN 5
          have hR' := (hR.out.set (i := t) H64.out (v : Int)).drewN 5
          have hS' : wb.heap.size ≤ ((wr.setCell ⟨w2.heap.size, t, none⟩ (.int .u32 (v : Int))).drewN 5).heap.size := by
            show _ ≤ (wr.setCell ⟨w2.heap.size, t, none⟩ (.int .u32 (v : Int))).heap.size
            rw [World.size_setCell]; exact hS.out
          rw [Nat.zero_add] at hR'
          clear hF hR hS c15 c2 c16 c7 ho z0 A7 A18 A17 A19 e0
          generalize (wr.setCell ⟨w2.heap.size, t, none⟩ (.int .u32 (v : Int))).drewN 5 = w5 at *
          have HF' := Lib.hid hF'
          have HR' := Lib.hid hR'
          have HS' := Lib.hid hS'
          clear hF' hR' hS'
          go_wp2_with fail
          go_roundg (64 - (t + 1))
          case rel =>
            refine ⟨t + 1, by have := HT.out.1; omega, by have := HT.out.2; omega, by go_num, HF', HS', Lib.hid (HR'.out.congr fun j hj => ?_)⟩
            by_cases e : j = t
            · subst e; rw [if_pos rfl, if_pos (Nat.lt_succ_self _), HV.out]
            · rw [if_neg e]
              by_cases e' : j < t
              · rw [if_pos e', if_pos (by omega)]
              · rw [if_neg e', if_neg (by omega)]
          case measure => have := HT.out.1; omega
        · obtain rfl : t = 64 := by omega
          have t1 : decide (((64 : Nat) : Int) < 64) = false := by decide
          have HR := Lib.hid (hR.out.congr (g := fun j => (Sha.wt m j : Int)) fun j hj => by rw [if_pos hj])
          have HN := Lib.hid (rnumbers_any wr)
          clear ht ht16 h hR
          go_wp2_with fail
          refine HN.out.mono ?_
          rintro e w6 ⟨rfl, hb1⟩
          have hF6 := hF.out.trans (Fr.of_below (hb1.mono (Nat.le_refl _)))
          have hR6 := HR.out.below hb1 (Nat.lt_of_lt_of_le HSZ.out hS.out)
          have hs6 : w2.heap.size < w6.heap.size := Nat.lt_of_lt_of_le (Nat.lt_of_lt_of_le HSZ.out hS.out) hb1.size
          have HF6 := Lib.hid hF6
          have HR6 := Lib.hid hR6
          have HS6 := Lib.hid hs6
          clear hF HR hb1 HN hF6 hR6 hs6 hS
          unfold kv
          have hth := there64 w6 116 kvL kvL_length
          have HTH6 := Lib.hid hth
          clear hth
          go_upto_region 13 with (refine wpList_store_mid rfl 116 (.tmp 10) (.tmp 78) rfl w6.heap.size 0 kvL.toArray rfl rfl HTH6.out (by kernel_rfl) kvL_one ?_)
          change Code.wp Tryd.prog _ _ _ ((w6.alloc (.cells (List.replicate 64 (Value.int .u32 0)).toArray 116)).setCells w6.heap.size 0 kvL)
          have hrk := row_store64 (w6.alloc (.cells (List.replicate 64 (Value.int .u32 0)).toArray 116)) w6.heap.size kvL (fun i => (Sha.kk i : Int)) (row_zeros w6 116) (fun i hi => kvL_get i hi) kvL_length
          have hb7 : Below w6.heap.size w6 ((w6.alloc (.cells (List.replicate 64 (Value.int .u32 0)).toArray 116)).setCells w6.heap.size 0 kvL) := below_cells (Nat.le_refl _) _ _ _ ((Below.refl _ _).alloc (Nat.le_refl _) _)
          have hs7 : w6.heap.size < ((w6.alloc (.cells (List.replicate 64 (Value.int .u32 0)).toArray 116)).setCells w6.heap.size 0 kvL).heap.size := Nat.lt_of_lt_of_le (by rw [World.size_alloc]; exact Nat.lt_succ_self _) (below_cells (Nat.le_refl _) kvL 0 _ (Below.refl w6.heap.size (w6.alloc (.cells (List.replicate 64 (Value.int .u32 0)).toArray 116)))).size
          generalize (w6.alloc (.cells (List.replicate 64 (Value.int .u32 0)).toArray 116)).setCells w6.heap.size 0 kvL = w7 at *
          have HRK := Lib.hid hrk
          have HF7 := Lib.hid (HF6.out.trans (Fr.of_below hb7))
          have HR7 := Lib.hid (HR6.out.below hb7 HS6.out)
          have HS7 := Lib.hid (Nat.lt_trans HS6.out hs7)
          have HSK := Lib.hid hs7
          clear hrk hb7 HF6 HR6 HTH6
          have hst := HRS.out.fr HF7.out (by have := HS2.out; omega) (fun _ _ k => k)
          have c0 : w7.cell? ⟨w.heap.size, 0, none⟩ = some (.int .u32 s.a) := hst.cell 0 (by decide)
          have c1 : w7.cell? ⟨w.heap.size, 1, none⟩ = some (.int .u32 s.b) := hst.cell 1 (by decide)
          have c2 : w7.cell? ⟨w.heap.size, 2, none⟩ = some (.int .u32 s.c) := hst.cell 2 (by decide)
          have c3 : w7.cell? ⟨w.heap.size, 3, none⟩ = some (.int .u32 s.d) := hst.cell 3 (by decide)
          have c4 : w7.cell? ⟨w.heap.size, 4, none⟩ = some (.int .u32 s.e) := hst.cell 4 (by decide)
          have c5 : w7.cell? ⟨w.heap.size, 5, none⟩ = some (.int .u32 s.f) := hst.cell 5 (by decide)
          have c6 : w7.cell? ⟨w.heap.size, 6, none⟩ = some (.int .u32 s.g) := hst.cell 6 (by decide)
          have c7 : w7.cell? ⟨w.heap.size, 7, none⟩ = some (.int .u32 s.h) := hst.cell 7 (by decide)
          clear hst hs7
          go_wp2_with fail
          go_quiet (fail)
          have HF8 := Lib.hid (HF7.out.drewN nq)
          have HR8 := Lib.hid (HR7.out.drewN nq)
          have HK8 := Lib.hid (HRK.out.drewN nq)
          have HS8 : Hid (w2.heap.size < (w7.drewN nq).heap.size ∧ w6.heap.size < (w7.drewN nq).heap.size) := Lib.hid ⟨HS7.out, HSK.out⟩
          clear HF7 HR7 HRK HS7 HSK c0 c1 c2 c3 c4 c5 c6 c7
          generalize w7.drewN nq = w8 at *
          have HBK := Lib.hid HS6.out
          go_wp2_with fail
          go_loopg [11, 12, 13, 14, 15, 16, 17, 18, 19] 64 (fun n x1 x2 x3 x4 x5 x6 x7 x8 x wr => ∃ (t : Nat) (S : Sha.S8), t + n = 64 ∧ x1 = .int .u32 S.a ∧ x2 = .int .u32 S.b ∧ x3 = .int .u32 S.c ∧ x4 = .int .u32 S.d ∧ x5 = .int .u32 S.e ∧ x6 = .int .u32 S.f ∧ x7 = .int .u32 S.g ∧ x8 = .int .u32 S.h ∧ x = .int .i64 t ∧
            Hid (S = Sha.rds Sha.kk m s t) ∧ Hid (∃ q, wr = w8.drewN q))
          case atStart => exact ⟨0, s, rfl, rfl, rfl, rfl, rfl, rfl, rfl, rfl, rfl, rfl, Lib.hid rfl, Lib.hid ⟨0, rfl⟩⟩
          case round =>
            obtain ⟨t, S, ht, rfl, rfl, rfl, rfl, rfl, rfl, rfl, rfl, rfl, hS, hq⟩ := hrel
            obtain ⟨nw, hq⟩ := hq.out
            subst hq
            by_cases h : t < 64
            · have t1 : decide ((t : Int) < 64) = true := by rw [decide_eq_true_eq]; omega
              have r0 : (t : Int) < 64 := by omega
              have hok : S.ok := by rw [hS.out]; exact Sha.rds_ok HS.out t
              have hwl := Sha.wt_lt (m := m) (fun t _ => HML.out t) t
              have hcw : (w8.drewN nw).cell? ⟨w2.heap.size, t, none⟩ = some (.int .u32 (Sha.wt m t : Int)) := by have := HR8.out.cell t h; rw [Nat.zero_add] at this; exact this
              have hck : (w8.drewN nw).cell? ⟨w6.heap.size, t, none⟩ = some (.int .u32 (Sha.kk t : Int)) := by have := HK8.out.cell t h; rw [Nat.zero_add] at this; exact this
              have hrd : Sha.rd S (Sha.kk t) (Sha.wt m t) = Sha.rds Sha.kk m s (t + 1) := by rw [hS.out]; rfl
              have hkl := Sha.kk_lt t
              have HRD := Lib.hid hrd
              obtain ⟨p, hp⟩ : ∃ p, p = Sha.pp S (Sha.kk t) (Sha.wt m t) := ⟨_, rfl⟩
              obtain ⟨q, hq⟩ : ∃ q, q = Sha.qq S := ⟨_, rfl⟩
              have HP := Lib.hid hp
              have HQ := Lib.hid hq
              unfold Sha.pp at hp
              unfold Sha.qq at hq
              have A6 := fun w => ror_q S.e 6 6 rfl (by decide) (by decide) hok.2.2.2.2.1 w
              have A11 := fun w => ror_q S.e 11 11 rfl (by decide) (by decide) hok.2.2.2.2.1 w
              have A25 := fun w => ror_q S.e 25 25 rfl (by decide) (by decide) hok.2.2.2.2.1 w
              have A2 := fun w => ror_q S.a 2 2 rfl (by decide) (by decide) hok.1 w
              have A13 := fun w => ror_q S.a 13 13 rfl (by decide) (by decide) hok.1 w
              have A22 := fun w => ror_q S.a 22 22 rfl (by decide) (by decide) hok.1 w
              have x1 := xor3 (Sha.rr 6 S.e) (Sha.rr 11 S.e) (Sha.rr 25 S.e) (Sha.rr_lt _ _ hok.2.2.2.2.1) (Sha.rr_lt _ _ hok.2.2.2.2.1) (Sha.rr_lt _ _ hok.2.2.2.2.1)
              have x2 := xor3 (Sha.rr 2 S.a) (Sha.rr 13 S.a) (Sha.rr 22 S.a) (Sha.rr_lt _ _ hok.1) (Sha.rr_lt _ _ hok.1) (Sha.rr_lt _ _ hok.1)
              rw [show (Sha.rr 6 S.e ^^^ Sha.rr 11 S.e) ^^^ Sha.rr 25 S.e = Sha.b1 S.e from rfl] at x1
              rw [show (Sha.rr 2 S.a ^^^ Sha.rr 13 S.a) ^^^ Sha.rr 22 S.a = Sha.b0 S.a from rfl] at x2
              have ch1 := Sha.ch_ref (f := S.f) hok.2.2.2.2.1 hok.2.2.2.2.2.2.1
              have mj1 := Sha.maj_ref S.a S.b S.c
              have l1 : S.e &&& S.f < 4294967296 := Sha.and_lt hok.2.2.2.2.2.1
              have l2 : (4294967295 ^^^ S.e) &&& S.g < 4294967296 := Sha.and_lt hok.2.2.2.2.2.2.1
              have ln : 4294967295 ^^^ S.e < 4294967296 := Sha.xor_lt (by decide) hok.2.2.2.2.1
              have m1 : S.a &&& S.b < 4294967296 := Sha.and_lt hok.2.1
              have m2 : S.a &&& S.c < 4294967296 := Sha.and_lt hok.2.2.1
              have m3 : S.b &&& S.c < 4294967296 := Sha.and_lt hok.2.2.1
              have k0 : bits .xor .u32 (if IntKind.u32.signed = true then -1 else IntKind.u32.max) (S.e : Int) = ((4294967295 ^^^ S.e : Nat) : Int) := by
                rw [show (if IntKind.u32.signed = true then -1 else IntKind.u32.max) = (4294967295 : Int) from rfl]
                exact bits_xor32 4294967295 S.e (by decide) hok.2.2.2.2.1
              have k1 := bits_and32 S.e S.f hok.2.2.2.2.1 hok.2.2.2.2.2.1
              have k2 := bits_and32 (4294967295 ^^^ S.e) S.g ln hok.2.2.2.2.2.2.1
              have k3 := bits_xor32 _ _ l1 l2
              rw [ch1] at k3
              have k4 := bits_and32 S.a S.b hok.1 hok.2.1
              have k5 := bits_and32 S.a S.c hok.1 hok.2.2.1
              have k6 := bits_and32 S.b S.c hok.2.1 hok.2.2.1
              have k7 := bits_xor32 _ _ m1 m2
              have k8 := bits_xor32 _ _ (Sha.xor_lt m1 m2) m3
              rw [mj1] at k8
              have s1 := ad_cast S.h (Sha.b1 S.e)
              have s2 := ad_cast (Sha.ad S.h (Sha.b1 S.e)) (Sha.ch S.e S.f S.g)
              have s3 := ad_cast (Sha.ad (Sha.ad S.h (Sha.b1 S.e)) (Sha.ch S.e S.f S.g)) (Sha.kk t)
              have s4 := ad_cast (Sha.ad (Sha.ad (Sha.ad S.h (Sha.b1 S.e)) (Sha.ch S.e S.f S.g)) (Sha.kk t)) (Sha.wt m t)
              rw [← hp] at s4
              have s5 := ad_cast (Sha.b0 S.a) (Sha.maj S.a S.b S.c)
              rw [← hq] at s5
              obtain ⟨vd, hvd⟩ : ∃ v, v = Sha.ad S.d p := ⟨_, rfl⟩
              obtain ⟨va, hva⟩ : ∃ v, v = Sha.ad p q := ⟨_, rfl⟩
              have s6 := ad_cast S.d p
              have s7 := ad_cast p q
              rw [← hvd] at s6
              rw [← hva] at s7
              have hl0 : Sha.rd S (Sha.kk t) (Sha.wt m t) = ⟨va, S.a, S.b, S.c, vd, S.e, S.f, S.g⟩ := by rw [hva, hvd, HP.out, HQ.out]; rfl
              rw [hrd] at hl0
              have HL0 := Lib.hid hl0
              have x1' := bits_xor32 _ _ (Sha.rr_lt 6 _ hok.2.2.2.2.1) (Sha.rr_lt 11 _ hok.2.2.2.2.1)
              have x2' := bits_xor32 _ _ (Sha.rr_lt 2 _ hok.1) (Sha.rr_lt 13 _ hok.1)
              rw [x1'] at x1
              rw [x2'] at x2
              clear hp hq hvd hva hl0 hrd hok hwl hkl ch1 mj1 l1 l2 ln m1 m2 m3
              generalize Sha.ad (Sha.ad (Sha.ad S.h (Sha.b1 S.e)) (Sha.ch S.e S.f S.g)) (Sha.kk t) = y3 at *
              generalize Sha.ad (Sha.ad S.h (Sha.b1 S.e)) (Sha.ch S.e S.f S.g) = y2 at *
              generalize Sha.ad S.h (Sha.b1 S.e) = y1 at *
              generalize Sha.ch S.e S.f S.g = z3 at *
              generalize (4294967295 ^^^ S.e) &&& S.g = z2 at *
              generalize 4294967295 ^^^ S.e = z1 at *
              generalize S.e &&& S.f = z0 at *
              generalize Sha.maj S.a S.b S.c = z9 at *
              generalize (S.a &&& S.b) ^^^ (S.a &&& S.c) = z8 at *
              generalize S.a &&& S.b = z4 at *
              generalize S.a &&& S.c = z5 at *
              generalize S.b &&& S.c = z6 at *
              generalize Sha.b1 S.e = f1 at *
              generalize Sha.b0 S.a = f0 at *
              generalize Sha.rr 6 S.e ^^^ Sha.rr 11 S.e = e1 at *
              generalize Sha.rr 2 S.a ^^^ Sha.rr 13 S.a = e2 at *
              generalize Sha.rr 6 S.e = ra at *
              generalize Sha.rr 11 S.e = rb at *
              generalize Sha.rr 25 S.e = rc at *
              generalize Sha.rr 2 S.a = rd at *
              generalize Sha.rr 13 S.a = re at *
              generalize Sha.rr 22 S.a = rf at *
              generalize hkt : Sha.kk t = kt at *
              generalize hwt : Sha.wt m t = wt at *
              clear hkt hwt
              replace A6 := Lib.hid A6
              replace A11 := Lib.hid A11
              replace A25 := Lib.hid A25
              replace A2 := Lib.hid A2
              replace A13 := Lib.hid A13
              replace A22 := Lib.hid A22
              have HT := Lib.hid ht
              have H64 := Lib.hid h
              clear ht h
              generalize hw9 : w8.drewN nw = w9 at *
              have HW9 := Lib.hid hw9
              clear hw9
              go_wp2_with fail
              go_quiet (first
                | (go_at_call 119; with_reducible refine Calls.quiet_of (A6.out _))
                | (go_at_call 119; with_reducible refine Calls.quiet_of (A11.out _))
                | (go_at_call 119; with_reducible refine Calls.quiet_of (A25.out _)))
              generalize hw10 : w9.drewN nq = w10 at *
              have HW10 := Lib.hid hw10
              clear hw10
              go_wp2_with fail
              refine (A2.out _).mono ?_
              rintro e w11 ⟨rfl, n1, hw11⟩
              have HW11 := Lib.hid hw11
              clear hw11
              go_wp2_with fail
              refine (A13.out _).mono ?_
              rintro e w12 ⟨rfl, n2, hw12⟩
              have HW12 := Lib.hid hw12
              clear hw12
              go_wp2_with fail
              refine (A22.out _).mono ?_
              rintro e w13 ⟨rfl, n3, hw13⟩
              have HW13 := Lib.hid hw13
              clear hw13
              go_wp2_with fail
              go_roundg (64 - (t + 1))
              case rel =>
                refine ⟨t + 1, ⟨va, S.a, S.b, S.c, vd, S.e, S.f, S.g⟩, by have := H64.out; omega, rfl, rfl, rfl, rfl, rfl, rfl, rfl, rfl, by go_num, Lib.hid HL0.out.symm, Lib.hid ?_⟩
                refine ⟨nw + (nq + (n1 + (n2 + n3))), ?_⟩
                rw [HW13.out, HW12.out, HW11.out, ← HW10.out, ← HW9.out, World.drewN_drewN, World.drewN_drewN, World.drewN_drewN, World.drewN_drewN]
              case measure => have := HT.out; have := H64.out; omega
            · obtain rfl : t = 64 := by omega
              have t1 : decide (((64 : Nat) : Int) < 64) = false := by decide
              have hst := (HRS.out.fr HF8.out (by have := HS2.out; omega) (fun _ _ k => k)).drewN nw
              have hrr := (HRR.out.fr HF8.out (by have := HS2.out; omega) (fun _ _ k => k)).drewN nw
              have hfn := HF8.out.drewN nw
              have hB9 : Below w.heap.size w (w8.drewN nw) := HB2.out.trans (hfn.below w.heap.size (by have := HS2.out; omega) (fun _ _ _ k => k))
              clear ht h
              generalize w8.drewN nw = w9 at *
              have c0 : w9.cell? ⟨w.heap.size, 0, none⟩ = some (.int .u32 s.a) := hst.cell 0 (by decide)
              have c1 : w9.cell? ⟨w.heap.size, 1, none⟩ = some (.int .u32 s.b) := hst.cell 1 (by decide)
              have c2 : w9.cell? ⟨w.heap.size, 2, none⟩ = some (.int .u32 s.c) := hst.cell 2 (by decide)
              have c3 : w9.cell? ⟨w.heap.size, 3, none⟩ = some (.int .u32 s.d) := hst.cell 3 (by decide)
              have c4 : w9.cell? ⟨w.heap.size, 4, none⟩ = some (.int .u32 s.e) := hst.cell 4 (by decide)
              have c5 : w9.cell? ⟨w.heap.size, 5, none⟩ = some (.int .u32 s.f) := hst.cell 5 (by decide)
              have c6 : w9.cell? ⟨w.heap.size, 6, none⟩ = some (.int .u32 s.g) := hst.cell 6 (by decide)
              have c7 : w9.cell? ⟨w.heap.size, 7, none⟩ = some (.int .u32 s.h) := hst.cell 7 (by decide)
              have hbk : Sha.blk Sha.kk m s = Sha.sumS s S := by rw [hS.out]; rfl
              rw [HM.out] at hbk
              have HBK2 := Lib.hid hbk
              have s0 := ad_cast s.a S.a
              have s1 := ad_cast s.b S.b
              have s2 := ad_cast s.c S.c
              have s3 := ad_cast s.d S.d
              have s4 := ad_cast s.e S.e
              have s5 := ad_cast s.f S.f
              have s6 := ad_cast s.g S.g
              have s7 := ad_cast s.h S.h
              have hth : w9.there (w.heap.size + 1) 0 (s8L (Sha.sumS s S)).toArray.size := fun j hj => by
                have hj : j < 8 := hj
                exact ⟨by rw [hrr.cell j hj]; rfl, hrr.free j hj⟩
              have HTHR := Lib.hid hth
              have HB9 := Lib.hid hB9
              clear hst hrr hfn hB9 hbk hth
              go_wp2_with (refine wpList_store_mid rfl 102 (.tmp 4) (.tmp 190) rfl (w.heap.size + 1) 0 (s8L (Sha.sumS s S)).toArray rfl rfl HTHR.out i8size (s8_one _) ?_)
              refine bodyPost_ret (v := .agg (s8L (Sha.sumS s S)).toArray) (results_cell rfl rfl (run_loadVar_mid _ (w.heap.size + 1) 0 102 (s8L (Sha.sumS s S)) (.array 8 101) (World.rangeAt_setCells_same w9 _ 0 (s8L (Sha.sumS s S)) HTHR.out) u8row rfl i8size)) rfl ⟨?_, ?_⟩
              · rw [HBK2.out]; rfl
              · exact below_cells (by omega) _ _ _ HB9.out
end Go.Proofs.YtelikpkekloffaaDoor
