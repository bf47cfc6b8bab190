/- (*digest.state).absorb of this program, walked: a block is added to the state. -/
import Derived.Test.YtelikpkekloffaaDoorDigA
import Derived.Deep.CutRange
import Derived.StillTailTactics
import Derived.RegionTactic
import Derived.Deep.RegionLaw
import Derived.Deep.CutBlock
import Derived.Laws.CopyOwn
namespace Go.Proofs.YtelikpkekloffaaDoor
open Go.RowKit

theorem row_new (w : World) (arr : Array Value) (T : TypeId) (n : Nat) (k : IntKind) (f : Nat → Int) (h : ∀ i, i < n → arr[i]? = some (.int k (f i))) : Row (w.alloc (.cells arr T)) w.heap.size 0 n k f := by
  refine ⟨fun i hi => ?_, fun i hi => by simp⟩
  rw [Nat.zero_add, World.cell?_alloc_new]
  exact h i hi
theorem row_zeros (w : World) (T : TypeId) : Row (w.alloc (.cells (List.replicate 64 (Value.int .u32 0)).toArray T)) w.heap.size 0 64 .u32 (fun _ => 0) :=
  row_new w _ T 64 .u32 _ fun i hi => by rw [List.getElem?_toArray, List.getElem?_replicate, if_pos hi]
theorem be4_shift (f : Nat → Nat) (a : Nat) : Sha.be4 (fun i => f (a + i)) 0 = Sha.be4 f a := by simp [Sha.be4]

theorem ad_cast (a b : Nat) : IntKind.u32.wrap ((a : Int) + (b : Int)) = ((Sha.ad a b : Nat) : Int) := by
  rw [wrap_u32_mod]; unfold Sha.ad; omega

theorem s8_list (S : Sha.S8) (i : Nat) (h : i < 8) : ([(S.a : Int), (S.b : Int), (S.c : Int), (S.d : Int), (S.e : Int), (S.f : Int), (S.g : Int), (S.h : Int)])[i]? = some (S.get i : Int) := by
  match i, h with
  | 0, _ => rfl
  | 1, _ => rfl
  | 2, _ => rfl
  | 3, _ => rfl
  | 4, _ => rfl
  | 5, _ => rfl
  | 6, _ => rfl
  | 7, _ => rfl

set_option maxRecDepth 100000 in
set_option maxHeartbeats 4000000 in
theorem absorb_any (Bs Bb off cap : Nat) (s : Sha.S8) (hs : s.ok) (f : Nat → Nat) (hf : ∀ i, f i < 256) (hcap : 64 ≤ cap) (w : World)
    (hst : Row w Bs 0 8 .u32 (fun i => (s.get i : Int))) (hb : Reads w Bb off 64 .u8 (fun i => (f i : Int))) (hk : Reads w 3 0 64 .u32 (fun i => (Sha.kk i : Int)))
    (hBs : Bs < w.heap.size) (hBb : Bb < w.heap.size) (hG : 3 < w.heap.size) :
    Calls Tryd.prog 104 #[.pointer (some ⟨Bs, 0, none⟩), .slice (some ⟨Bb, off, none⟩) 64 cap] w fun e w' => e = .returned (.tuple #[]) ∧
      Fr (At Bs 0 8) w w' ∧ Row w' Bs 0 8 .u32 (fun i => ((Sha.blk Sha.kk (fun t => Sha.be4 f (4 * t)) s).get i : Int)) := by
  have HS := Lib.hid hs
  have HF := Lib.hid hf
  have HST := Lib.hid hst
  have HB := Lib.hid hb
  have HK := Lib.hid hk
  have HZ := Lib.hid (show _ ∧ _ ∧ _ from ⟨hBs, hBb, hG⟩)
  have b1 : (64 : Int) ≤ cap := by omega
  clear hs hf hst hb hk hBs hBb hG
  go_enter Tryd.func104, Tryd.ntmps104
  go_wp2_with fail
  change Code.wp Tryd.prog _ _ _ (w.alloc (.cells (List.replicate 64 (Value.int .u32 0)).toArray 116))
  have hrow := row_zeros w 116
  have hfr : Fr Nowhere w (w.alloc (.cells (List.replicate 64 (Value.int .u32 0)).toArray 116)) := (Fr.refl _ _).alloc _
  have hsz : w.heap.size < (w.alloc (.cells (List.replicate 64 (Value.int .u32 0)).toArray 116)).heap.size := by rw [World.size_alloc]; exact Nat.lt_succ_self _
  generalize w.alloc (.cells (List.replicate 64 (Value.int .u32 0)).toArray 116) = wb at *
  have HR0 := Lib.hid hrow
  have HF0 := Lib.hid hfr
  have HSZ := Lib.hid hsz
  clear hrow hfr hsz
  obtain ⟨m, hm⟩ : ∃ m : Nat → Nat, m = fun t => Sha.be4 f (4 * t) := ⟨_, rfl⟩
  have HM := Lib.hid hm
  have hml : ∀ t, m t < 4294967296 := fun t => by rw [hm]; exact Sha.be4_lt HF.out _
  have HML := Lib.hid hml
  clear hm hml
  go_loopg [14] 16 (fun g x wr => ∃ t : Nat, t + g = 16 ∧ x = .int .i64 t ∧ Hid (Fr Nowhere w wr) ∧ Hid (wb.heap.size ≤ wr.heap.size) ∧ Hid (Row wr w.heap.size 0 64 .u32 (fun j => if j < t then (m j : Int) else 0)))
  case atStart => exact ⟨0, rfl, rfl, HF0, Lib.hid (Nat.le_refl _), Lib.hid (HR0.out.congr fun i _ => by rw [if_neg (Nat.not_lt_zero _)])⟩
  case round =>
    obtain ⟨t, ht, rfl, hF, hS, hR⟩ := hrel
    by_cases h : t < 16
    · have t1 : decide ((t : Int) < 16) = true := by rw [decide_eq_true_eq]; omega
      have t1' : decide (t < 16) = true := by rw [decide_eq_true_eq]; exact h
      have b2 : (t : Int) ≤ 15 := by omega
      have hrd : Reads wr Bb off 64 .u8 (fun i => (f i : Int)) := HB.out.below hF.out.nowhere HZ.out.2.1
      have c1 := word_any Bb (off + 4 * t) (cap - 4 * t) (64 - 4 * t) (fun i => f (4 * t + i)) (fun i _ => HF.out _) (by omega) (by omega) wr (hrd.sub (4 * t) 4 (by omega))
      have e1 : Sha.be4 (fun i => f (4 * t + i)) 0 = m t := by rw [be4_shift, HM.out]
      rw [e1] at c1
      have C1 := Lib.hid c1
      have hc := hR.out.cell t (by omega)
      have hfz := hR.out.free t (by omega)
      rw [Nat.zero_add] at hc hfz
      obtain ⟨old, ho⟩ : ∃ old, wr.cell? ⟨w.heap.size, t, none⟩ = some (.int .u32 old) := ⟨_, hc⟩
      have HT := Lib.hid ht
      clear hrd ht c1 e1 hc
      go_wp2_with fail
      refine C1.out.mono ?_
      rintro e w1 ⟨rfl, rfl⟩
      go_wp2_with fail
      go_roundg (16 - (t + 1))
      case rel =>
        have hF' := hF.out.setCell w.heap.size t (.int .u32 (m t : Int)) (fun h => absurd h (Nat.lt_irrefl _))
        have hR' := hR.out.set (i := t) (by omega) (m t : Int)
        rw [Nat.zero_add] at hR'
        refine ⟨t + 1, by omega, by go_num, Lib.hid hF', Lib.hid (by rw [World.size_setCell]; exact hS.out), Lib.hid (hR'.congr fun j hj => ?_)⟩
        by_cases e : j = t
        · subst e; rw [if_pos rfl, if_pos (Nat.lt_succ_self _)]
        · rw [if_neg e]
          by_cases e' : j < t
          · rw [if_pos e', if_pos (by omega)]
          · rw [if_neg e', if_neg (by omega)]
      case measure => have := HT.out; omega
    · obtain rfl : t = 16 := by omega
      have t1 : decide (((16 : Nat) : Int) < 16) = false := by decide
      have hR' : Row wr w.heap.size 0 64 .u32 (fun j => if j < 16 then (Sha.wt m j : Int) else 0) := hR.out.congr fun j hj => by
        by_cases e : j < 16
        · rw [if_pos e, if_pos e, Sha.wt_lo e]
        · rw [if_neg e, if_neg e]
      have HR := Lib.hid hR'
      clear ht h hR' HR0 HF0 hR
      go_wp2_with fail
      have hF' := hF.out
      obtain ⟨wc, hwc⟩ : ∃ wc, wc = wr := ⟨_, rfl⟩
      subst hwc
      go_loopg [6] 48 (fun g x wr => ∃ t : Nat, t + g = 64 ∧ 16 ≤ t ∧ x = .int .i64 t ∧ Hid (Fr Nowhere w wr) ∧ Hid (wb.heap.size ≤ wr.heap.size) ∧ Hid (Row wr w.heap.size 0 64 .u32 (fun j => if j < t then (Sha.wt m j : Int) else 0)))
      case atStart => exact ⟨16, rfl, Nat.le_refl _, rfl, hF, hS, HR⟩
      case round =>
        clear hF hS HR hF'
        obtain ⟨t, ht, ht16, rfl, hF, hS, hR⟩ := hrel
        by_cases h : t < 64
        · have t1 : decide ((t : Int) < 64) = true := by rw [decide_eq_true_eq]; omega
          obtain ⟨i15, h15⟩ : ∃ i, i = t - 15 := ⟨_, rfl⟩
          obtain ⟨i2, h2⟩ : ∃ i, i = t - 2 := ⟨_, rfl⟩
          obtain ⟨i16, h16⟩ : ∃ i, i = t - 16 := ⟨_, rfl⟩
          obtain ⟨i7, h7⟩ : ∃ i, i = t - 7 := ⟨_, rfl⟩
          have q15 : (t : Int) - 15 = (i15 : Int) := by omega
          have q2 : (t : Int) - 2 = (i2 : Int) := by omega
          have q16 : (t : Int) - 16 = (i16 : Int) := by omega
          have q7 : (t : Int) - 7 = (i7 : Int) := by omega
          have r15 : (i15 : Int) < 64 := by omega
          have r2 : (i2 : Int) < 64 := by omega
          have r16 : (i16 : Int) < 64 := by omega
          have r7 : (i7 : Int) < 64 := by omega
          have r0 : (t : Int) < 64 := by omega
          have c15 := hR.out.cell i15 (by omega)
          have c2 := hR.out.cell i2 (by omega)
          have c16 := hR.out.cell i16 (by omega)
          have c7 := hR.out.cell i7 (by omega)
          have c0 := hR.out.cell t h
          have z0 := hR.out.free t h
          rw [if_pos (by omega), Nat.zero_add] at c15 c2 c16 c7
          rw [Nat.zero_add] at c0 z0
          obtain ⟨old, ho⟩ : ∃ old, wr.cell? ⟨w.heap.size, t, none⟩ = some (.int .u32 old) := ⟨_, c0⟩
          have hw := Sha.wt_hi (m := m) (t := t) (by omega)
          rw [← h15, ← h2, ← h16, ← h7] at hw
          have l15 := Sha.wt_lt (m := m) (fun t _ => HML.out t) i15
          have l2 := Sha.wt_lt (m := m) (fun t _ => HML.out t) i2
          have l16 := Sha.wt_lt (m := m) (fun t _ => HML.out t) i16
          have l7 := Sha.wt_lt (m := m) (fun t _ => HML.out t) i7
          obtain ⟨v, hv⟩ : ∃ v, v = Sha.wt m t := ⟨_, rfl⟩
          rw [← hv] at hw
          generalize Sha.wt m i15 = x15 at *
          generalize Sha.wt m i2 = x2 at *
          generalize Sha.wt m i16 = x16 at *
          generalize Sha.wt m i7 = x7 at *
          have HV := Lib.hid hv
          have HT := Lib.hid (show _ ∧ _ from ⟨ht, ht16⟩)
          have H64 := Lib.hid h
          have a7 := fun w => rot7 x15 l15 w
          have a18 := fun w => rot18 x15 l15 w
          have a17 := fun w => rot17 x2 l2 w
          have a19 := fun w => rot19 x2 l2 w
          have k1 := bits_xor32 _ _ (Sha.rr_lt 7 x15 l15) (Sha.rr_lt 18 x15 l15)
          have k2 := bits_xor32 (Sha.rr 7 x15 ^^^ Sha.rr 18 x15) (x15 / 8) (Sha.xor_lt (Sha.rr_lt 7 x15 l15) (Sha.rr_lt 18 x15 l15)) (by omega)
          have k3 := bits_xor32 _ _ (Sha.rr_lt 17 x2 l2) (Sha.rr_lt 19 x2 l2)
          have k4 := bits_xor32 (Sha.rr 17 x2 ^^^ Sha.rr 19 x2) (x2 / 1024) (Sha.xor_lt (Sha.rr_lt 17 x2 l2) (Sha.rr_lt 19 x2 l2)) (by omega)
          have k5 : (x15 : Int) / 8 = ((x15 / 8 : Nat) : Int) := by omega
          have k6 : (x2 : Int) / 1024 = ((x2 / 1024 : Nat) : Int) := by omega
          have g1 : (Sha.rr 7 x15 ^^^ Sha.rr 18 x15) ^^^ (x15 / 8) = Sha.g0 x15 := rfl
          have g2 : (Sha.rr 17 x2 ^^^ Sha.rr 19 x2) ^^^ (x2 / 1024) = Sha.g1 x2 := rfl
          rw [g1] at k2
          rw [g2] at k4
          clear g1 g2
          have s1 := ad_cast x16 (Sha.g0 x15)
          have s2 := ad_cast (Sha.ad x16 (Sha.g0 x15)) x7
          have s3 := ad_cast (Sha.ad (Sha.ad x16 (Sha.g0 x15)) x7) (Sha.g1 x2)
          rw [← hw] at s3
          clear hw
          generalize Sha.ad (Sha.ad x16 (Sha.g0 x15)) x7 = y2 at *
          generalize Sha.ad x16 (Sha.g0 x15) = y1 at *
          generalize Sha.rr 7 x15 ^^^ Sha.rr 18 x15 = z1 at *
          generalize Sha.rr 17 x2 ^^^ Sha.rr 19 x2 = z2 at *
          generalize Sha.rr 7 x15 = p7 at *
          generalize Sha.rr 18 x15 = p18 at *
          generalize Sha.rr 17 x2 = p17 at *
          generalize Sha.rr 19 x2 = p19 at *
          generalize Sha.g0 x15 = q0 at *
          generalize Sha.g1 x2 = q1 at *
          generalize x15 / 8 = d3 at *
          generalize x2 / 1024 = d10 at *
          have A7 := Lib.hid a7
          have A18 := Lib.hid a18
          have A17 := Lib.hid a17
          have A19 := Lib.hid a19
          clear a7 a18 a17 a19
          have HL := Lib.hid (show _ ∧ _ ∧ _ ∧ _ from ⟨l15, l2, l16, l7⟩)
          clear c0 hv ht ht16 h h15 h2 h16 h7 l15 l2 l16 l7
          go_upto_region 9 with fail
          go_quiet (fail)
          have wr16 : IntKind.i64.wrap (i16 : Int) = i16 := by rw [IntKind.wrap_i64]; omega
          have wr7 : IntKind.i64.wrap (i7 : Int) = i7 := by rw [IntKind.wrap_i64]; omega
          have hwqF : Fr Nowhere wr (wr.drewN nq) := (Fr.refl _ _).drewN nq
          have hwqR := hR.out.drewN nq
          generalize wr.drewN nq = wq at *
          have c16' : wq.cell? ⟨w.heap.size, i16, none⟩ = some (.int .u32 x16) := (hwqF.cells _ _ (Nat.lt_of_lt_of_le HSZ.out hS.out) (fun k => k)).trans c16
          have c7' : wq.cell? ⟨w.heap.size, i7, none⟩ = some (.int .u32 x7) := (hwqF.cells _ _ (Nat.lt_of_lt_of_le HSZ.out hS.out) (fun k => k)).trans c7
          have d16 : ∀ d, ({ wq with drawn := d } : World).cell? ⟨w.heap.size, i16, none⟩ = some (.int .u32 x16) := fun _ => c16'
          have d7 : ∀ d, ({ wq with drawn := d } : World).cell? ⟨w.heap.size, i7, none⟩ = some (.int .u32 x7) := fun _ => c7'
          replace hwqF := Lib.hid hwqF
          replace hwqR := Lib.hid hwqR
          go_upto_region 10 with fail
          go_still_tail 29, (by kernel_rfl)
          still_call (A7.out _)
          repeat still_step
          still_call (A18.out _)
          repeat still_step
          still_call (A17.out _)
          repeat still_step
          still_call (A19.out _)
          repeat still_step
          refine wpStill_nil ?_
          change wpList _ _ _ _ _ wq.drew
          have e0 : wq.drew.cell? ⟨w.heap.size, t, none⟩ = some (.int .u32 old) := (hwqF.out.cells _ _ (Nat.lt_of_lt_of_le HSZ.out hS.out) (fun k => k)).trans ho
          have f0 : wq.drew.frozen? ⟨w.heap.size, t, none⟩ = false := (hwqF.out.frozen _ _ (Nat.lt_of_lt_of_le HSZ.out hS.out)).trans z0
          have hwF := hwqF.out.drew
          have hwR := hwqR.out.drew
          clear hwqF hwqR d16 d7 c16' c7'
          generalize wq.drew = w2 at *
          have HWF := Lib.hid hwF
          have HWR := Lib.hid hwR
          clear hwF hwR
          go_wp2_with fail
          go_roundg (64 - (t + 1))
          case rel =>
            have hF' := (hF.out.trans HWF.out).setCell w.heap.size t (.int .u32 (v : Int)) (fun h => absurd h (Nat.lt_irrefl _))
            have hR' := HWR.out.set (i := t) H64.out (v : Int)
            rw [Nat.zero_add] at hR'
            refine ⟨t + 1, by have := HT.out.1; omega, by have := HT.out.2; omega, by go_num, Lib.hid hF', Lib.hid (by rw [World.size_setCell]; exact Nat.le_trans hS.out HWF.out.size), Lib.hid (hR'.congr fun j hj => ?_)⟩
            by_cases e : j = t
            · subst e; rw [if_pos rfl, if_pos (Nat.lt_succ_self _), HV.out]
            · rw [if_neg e]
              by_cases e' : j < t
              · rw [if_pos e', if_pos (by omega)]
              · rw [if_neg e', if_neg (by omega)]
          case measure => have := HT.out.1; omega
        · obtain rfl : t = 64 := by omega
          have t1 : decide (((64 : Nat) : Int) < 64) = false := by decide
          have HR := Lib.hid (hR.out.congr (g := fun j => (Sha.wt m j : Int)) fun j hj => by rw [if_pos hj])
          have hst := HST.out.below hF.out.nowhere HZ.out.1
          have c0 : wr.cell? ⟨Bs, 0, none⟩ = some (.int .u32 s.a) := hst.cell 0 (by decide)
          have c1 : wr.cell? ⟨Bs, 1, none⟩ = some (.int .u32 s.b) := hst.cell 1 (by decide)
          have c2 : wr.cell? ⟨Bs, 2, none⟩ = some (.int .u32 s.c) := hst.cell 2 (by decide)
          have c3 : wr.cell? ⟨Bs, 3, none⟩ = some (.int .u32 s.d) := hst.cell 3 (by decide)
          have c4 : wr.cell? ⟨Bs, 4, none⟩ = some (.int .u32 s.e) := hst.cell 4 (by decide)
          have c5 : wr.cell? ⟨Bs, 5, none⟩ = some (.int .u32 s.f) := hst.cell 5 (by decide)
          have c6 : wr.cell? ⟨Bs, 6, none⟩ = some (.int .u32 s.g) := hst.cell 6 (by decide)
          have c7 : wr.cell? ⟨Bs, 7, none⟩ = some (.int .u32 s.h) := hst.cell 7 (by decide)
          clear ht ht16 h hR hst
          go_wp2_with fail
          change Code.wp Tryd.prog _ _ _ (wr.alloc (.cells (([(s.a : Int), (s.b : Int), (s.c : Int), (s.d : Int), (s.e : Int), (s.f : Int), (s.g : Int), (s.h : Int)]).map (Value.int .u32)).toArray 103))
          have hblk := Blk.new wr 103 .u32 [(s.a : Int), (s.b : Int), (s.c : Int), (s.d : Int), (s.e : Int), (s.f : Int), (s.g : Int), (s.h : Int)]
          have hfv := hF.out.alloc (.cells (([(s.a : Int), (s.b : Int), (s.c : Int), (s.d : Int), (s.e : Int), (s.f : Int), (s.g : Int), (s.h : Int)]).map (Value.int .u32)).toArray 103)
          have hrv := HR.out.alloc (Nat.lt_of_lt_of_le HSZ.out hS.out) (.cells (([(s.a : Int), (s.b : Int), (s.c : Int), (s.d : Int), (s.e : Int), (s.f : Int), (s.g : Int), (s.h : Int)]).map (Value.int .u32)).toArray 103)
          have hbv : w.heap.size < wr.heap.size := Nat.lt_of_lt_of_le HSZ.out hS.out
          generalize wr.alloc (.cells (([(s.a : Int), (s.b : Int), (s.c : Int), (s.d : Int), (s.e : Int), (s.f : Int), (s.g : Int), (s.h : Int)]).map (Value.int .u32)).toArray 103) = wv at *
          generalize wr.heap.size = Bv at *
          have HBLK := Lib.hid hblk
          have HFV := Lib.hid hfv
          have HRV := Lib.hid hrv
          have HBV := Lib.hid hbv
          clear hblk hfv hrv hbv c0 c1 c2 c3 c4 c5 c6 c7 hF hS HR
          go_loopg [69] 64 (fun g x wr => ∃ (t : Nat) (S : Sha.S8), t + g = 64 ∧ x = .int .i64 t ∧ Hid (S = Sha.rds Sha.kk m s t) ∧ Hid (Fr Nowhere w wr) ∧ Hid (Row wr w.heap.size 0 64 .u32 (fun j => (Sha.wt m j : Int))) ∧
            Hid (Blk wr Bv 103 .u32 [(S.a : Int), (S.b : Int), (S.c : Int), (S.d : Int), (S.e : Int), (S.f : Int), (S.g : Int), (S.h : Int)]))
          case atStart => exact ⟨0, s, rfl, rfl, Lib.hid rfl, HFV, HRV, HBLK⟩
          case round =>
            clear HFV HRV HBLK
            obtain ⟨t, S, ht, rfl, hS, hF, hR, hV⟩ := hrel
            by_cases h : t < 64
            · have t1 : decide ((t : Int) < 64) = true := by rw [decide_eq_true_eq]; omega
              have r0 : (t : Int) < 64 := by omega
              have hok : S.ok := by rw [hS.out]; exact Sha.rds_ok HS.out t
              have hwl := Sha.wt_lt (m := m) (fun t _ => HML.out t) t
              have hcw : wr.cell? ⟨w.heap.size, t, none⟩ = some (.int .u32 (Sha.wt m t : Int)) := by have := hR.out.cell t h; rw [Nat.zero_add] at this; exact this
              have hck : wr.cell? ⟨3, t, none⟩ = some (.int .u32 (Sha.kk t : Int)) := by have := (HK.out.below hF.out.nowhere HZ.out.2.2) t h; rw [Nat.zero_add] at this; exact this
              have c0 := hV.out.cell 0 _ rfl
              have c1 := hV.out.cell 1 _ rfl
              have c2 := hV.out.cell 2 _ rfl
              have c3 := hV.out.cell 3 _ rfl
              have c4 := hV.out.cell 4 _ rfl
              have c5 := hV.out.cell 5 _ rfl
              have c6 := hV.out.cell 6 _ rfl
              have c7 := hV.out.cell 7 _ rfl
              have hrd : Sha.rd S (Sha.kk t) (Sha.wt m t) = Sha.rds Sha.kk m s (t + 1) := by rw [hS.out]; rfl
              have hkl := Sha.kk_lt t
              have HRD := Lib.hid hrd
              obtain ⟨p, hp⟩ : ∃ p, p = Sha.pp S (Sha.kk t) (Sha.wt m t) := ⟨_, rfl⟩
              obtain ⟨q, hq⟩ : ∃ q, q = Sha.qq S := ⟨_, rfl⟩
              have HP := Lib.hid hp
              have HQ := Lib.hid hq
              unfold Sha.pp at hp
              unfold Sha.qq at hq
              have A1 := fun w => rotated_e S.e hok.2.2.2.2.1 w
              have A0 := fun w => rotated_a S.a hok.1 w
              have k1 := bits_xor32 S.f S.g hok.2.2.2.2.2.1 hok.2.2.2.2.2.2.1
              have k2 := bits_and32 S.e (S.f ^^^ S.g) hok.2.2.2.2.1 (Sha.xor_lt hok.2.2.2.2.2.1 hok.2.2.2.2.2.2.1)
              have k3 := bits_xor32 S.g (S.e &&& (S.f ^^^ S.g)) hok.2.2.2.2.2.2.1 (Sha.and_lt (Sha.xor_lt hok.2.2.2.2.2.1 hok.2.2.2.2.2.2.1))
              have g1 : S.g ^^^ (S.e &&& (S.f ^^^ S.g)) = Sha.ch S.e S.f S.g := rfl
              rw [g1] at k3
              have k4 := bits_and32 S.a S.b hok.1 hok.2.1
              have k5 := bits_or32 S.a S.b hok.1 hok.2.1
              have k6 := bits_and32 S.c (S.a ||| S.b) hok.2.2.1 (Sha.or_lt hok.1 hok.2.1)
              have k7 := bits_or32 (S.a &&& S.b) (S.c &&& (S.a ||| S.b)) (Sha.and_lt hok.2.1) (Sha.and_lt (Sha.or_lt hok.1 hok.2.1))
              have g2 : (S.a &&& S.b) ||| (S.c &&& (S.a ||| S.b)) = Sha.maj S.a S.b S.c := rfl
              rw [g2] at k7
              have s1 := ad_cast S.h (Sha.b1 S.e)
              have s2 := ad_cast (Sha.ad S.h (Sha.b1 S.e)) (Sha.ch S.e S.f S.g)
              have s3 := ad_cast (Sha.ad (Sha.ad S.h (Sha.b1 S.e)) (Sha.ch S.e S.f S.g)) (Sha.kk t)
              have s4 := ad_cast (Sha.ad (Sha.ad (Sha.ad S.h (Sha.b1 S.e)) (Sha.ch S.e S.f S.g)) (Sha.kk t)) (Sha.wt m t)
              rw [← hp] at s4
              have s5 := ad_cast (Sha.b0 S.a) (Sha.maj S.a S.b S.c)
              rw [← hq] at s5
              obtain ⟨vd, hvd⟩ : ∃ v, v = Sha.ad S.d p := ⟨_, rfl⟩
              obtain ⟨va, hva⟩ : ∃ v, v = Sha.ad p q := ⟨_, rfl⟩
              have s6 := ad_cast S.d p
              have s7 := ad_cast p q
              rw [← hvd] at s6
              rw [← hva] at s7
              have HVD := Lib.hid hvd
              have HVA := Lib.hid hva
              have hl0 : Sha.rd S (Sha.kk t) (Sha.wt m t) = ⟨va, S.a, S.b, S.c, vd, S.e, S.f, S.g⟩ := by rw [hva, hvd, HP.out, HQ.out]; rfl
              rw [hrd] at hl0
              have HL0 := Lib.hid hl0
              clear hp hq hvd hva hl0 hrd g1 g2 hok hwl hkl
              generalize Sha.ad (Sha.ad (Sha.ad S.h (Sha.b1 S.e)) (Sha.ch S.e S.f S.g)) (Sha.kk t) = y3 at *
              generalize Sha.ad (Sha.ad S.h (Sha.b1 S.e)) (Sha.ch S.e S.f S.g) = y2 at *
              generalize Sha.ad S.h (Sha.b1 S.e) = y1 at *
              generalize Sha.ch S.e S.f S.g = z3 at *
              generalize S.e &&& (S.f ^^^ S.g) = z2 at *
              generalize S.f ^^^ S.g = z1 at *
              generalize Sha.maj S.a S.b S.c = z7 at *
              generalize S.c &&& (S.a ||| S.b) = z6 at *
              generalize S.a ||| S.b = z5 at *
              generalize S.a &&& S.b = z4 at *
              generalize Sha.b1 S.e = f1 at *
              generalize Sha.b0 S.a = f0 at *
              generalize hkt : Sha.kk t = kt at *
              generalize hwt : Sha.wt m t = wt at *
              clear hkt hwt
              replace A1 := Lib.hid A1
              replace A0 := Lib.hid A0
              have HT := Lib.hid ht
              have H64 := Lib.hid h
              clear ht h
              go_upto_region 15 with fail
              have D0 : ∀ d, ({ wr with drawn := d } : World).cell? ⟨Bv, 0, none⟩ = _ := fun _ => c0
              have D1 : ∀ d, ({ wr with drawn := d } : World).cell? ⟨Bv, 1, none⟩ = _ := fun _ => c1
              have D2 : ∀ d, ({ wr with drawn := d } : World).cell? ⟨Bv, 2, none⟩ = _ := fun _ => c2
              have D4 : ∀ d, ({ wr with drawn := d } : World).cell? ⟨Bv, 4, none⟩ = _ := fun _ => c4
              have D5 : ∀ d, ({ wr with drawn := d } : World).cell? ⟨Bv, 5, none⟩ = _ := fun _ => c5
              have D6 : ∀ d, ({ wr with drawn := d } : World).cell? ⟨Bv, 6, none⟩ = _ := fun _ => c6
              have D7 : ∀ d, ({ wr with drawn := d } : World).cell? ⟨Bv, 7, none⟩ = _ := fun _ => c7
              have DW : ∀ d, ({ wr with drawn := d } : World).cell? ⟨w.heap.size, t, none⟩ = _ := fun _ => hcw
              have DK : ∀ d, ({ wr with drawn := d } : World).cell? ⟨3, t, none⟩ = _ := fun _ => hck
              refine wp_region_still_lit (by kernel_rfl) (by kernel_rfl) ?_
              repeat still_step
              still_call (A1.out _)
              repeat still_step
              refine wpStill_nil ?_
              change Exit.then _ _ Exit.normal _ wr.drew
              have hF2 := Lib.hid hF.out.drew
              have hR2 := Lib.hid hR.out.drew
              have hV2 := Lib.hid hV.out.drew
              clear D0 D1 D2 D4 D5 D6 D7 DW DK c0 c1 c2 c3 c4 c5 c6 c7 hcw hck k1 k2 k3 s1 s2 s3 s4 hF hR hV A1
              generalize wr.drew = w2 at *
              have c0 := hV2.out.cell 0 _ rfl
              have c1 := hV2.out.cell 1 _ rfl
              have c2 := hV2.out.cell 2 _ rfl
              have D0 : ∀ d, ({ w2 with drawn := d } : World).cell? ⟨Bv, 0, none⟩ = _ := fun _ => c0
              have D1 : ∀ d, ({ w2 with drawn := d } : World).cell? ⟨Bv, 1, none⟩ = _ := fun _ => c1
              have D2 : ∀ d, ({ w2 with drawn := d } : World).cell? ⟨Bv, 2, none⟩ = _ := fun _ => c2
              go_upto_region 16 with fail
              refine wp_region_still_lit (by kernel_rfl) (by kernel_rfl) ?_
              repeat still_step
              still_call (A0.out _)
              repeat still_step
              refine wpStill_nil ?_
              change Exit.then _ _ Exit.normal _ w2.drew
              have hF3 := Lib.hid hF2.out.drew
              have hR3 := Lib.hid hR2.out.drew
              have hV3 := Lib.hid hV2.out.drew
              clear D0 D1 D2 c0 c1 c2 k4 k5 k6 k7 s5 hF2 hR2 hV2 A0
              generalize w2.drew = w3 at *
              go_upto_region 17 with fail
              go_still_tail 2, (by kernel_rfl)
              change wpList _ _ _ _ _ w3.drew
              have hF4 := Lib.hid hF3.out.drew
              have hR4 := Lib.hid hR3.out.drew
              have hV4 := Lib.hid hV3.out.drew
              clear hF3 hR3 hV3
              generalize w3.drew = w4 at *
              have hlen : ([Value.int .u32 S.a, .int .u32 S.b, .int .u32 S.c, .int .u32 S.d, .int .u32 S.e, .int .u32 S.f, .int .u32 S.g] : List Value).length = 7 := rfl
              refine wpList_copy_splice rfl (.tmp 116) (.tmp 117) 120 120 rfl 101 Tryd.underlying120 (by kernel_rfl) (some ⟨Bv, 1, none⟩) (some ⟨Bv, 0, none⟩) 7 7 7 8 rfl rfl
                Bv 1 [.int .u32 S.a, .int .u32 S.b, .int .u32 S.c, .int .u32 S.d, .int .u32 S.e, .int .u32 S.f, .int .u32 S.g, .int .u32 S.h] 103 hV4.out [.int .u32 S.a, .int .u32 S.b, .int .u32 S.c, .int .u32 S.d, .int .u32 S.e, .int .u32 S.f, .int .u32 S.g] rfl
                (fun _ => ⟨rfl, ⟨Bv, 0, none⟩, rfl, ?_⟩) (by simp) (by simp [Value.oneCell']) Bv w4 (Below.refl _ _) (Nat.le_refl _) ?_
              · intro j v hj
                have hj7 : j < 7 := by
                  have := (List.getElem?_eq_some_iff.1 hj).1
                  rw [hlen] at this; exact this
                match j, hj7, hj with
                | 0, _, hj => cases hj; exact hV4.out.cell 0 _ rfl
                | 1, _, hj => cases hj; exact hV4.out.cell 1 _ rfl
                | 2, _, hj => cases hj; exact hV4.out.cell 2 _ rfl
                | 3, _, hj => cases hj; exact hV4.out.cell 3 _ rfl
                | 4, _, hj => cases hj; exact hV4.out.cell 4 _ rfl
                | 5, _, hj => cases hj; exact hV4.out.cell 5 _ rfl
                | 6, _, hj => cases hj; exact hV4.out.cell 6 _ rfl
              · intro w5 hg5 hb5
                have hV5 : Blk w5 Bv 103 .u32 [(S.a : Int), (S.a : Int), (S.b : Int), (S.c : Int), (S.d : Int), (S.e : Int), (S.f : Int), (S.g : Int)] := hg5.out
                have hF5 : Fr Nowhere w w5 := Fr.of_below (hF4.out.nowhere.trans (hb5.mono (Nat.le_of_lt HBV.out)))
                have hR5 := hR4.out.below hb5 HBV.out
                have c4 := hV5.cell 4 _ rfl
                have c0 := hV5.cell 0 _ rfl
                have z4 := hV5.free 4
                have z0 := hV5.free 0
                replace hV5 := Lib.hid hV5
                replace hF5 := Lib.hid hF5
                replace hR5 := Lib.hid hR5
                clear hg5 hb5 hF4 hR4 hV4 hlen
                go_wp2_with fail
                go_roundg (64 - (t + 1))
                case rel =>
                  have hlt := HBV.out
                  refine ⟨t + 1, ⟨va, S.a, S.b, S.c, vd, S.e, S.f, S.g⟩, by have := H64.out; omega, by go_num, Lib.hid HL0.out.symm, ?_, ?_, ?_⟩
                  · exact Lib.hid ((hF5.out.setCell Bv 4 _ (fun h => absurd h (by omega))).setCell Bv 0 _ (fun h => absurd h (by omega)))
                  · exact Lib.hid ((hR5.out.other (a := ⟨Bv, 4, none⟩) (by show Bv ≠ _; omega) _).other (a := ⟨Bv, 0, none⟩) (by show Bv ≠ _; omega) _)
                  · exact Lib.hid ((hV5.out.set 4 _).set 0 _)
                case measure => have := HT.out; omega
            · obtain rfl : t = 64 := by omega
              have t1 : decide (((64 : Nat) : Int) < 64) = false := by decide
              have hst := Lib.hid (HST.out.fr hF.out HZ.out.1 (fun _ _ k => k))
              have hFA := Lib.hid (hF.out.mono (T := At Bs 0 8) (fun _ _ _ k => absurd k (fun k => k)))
              clear ht h hF hR
              go_wp2_with fail
              go_loopg [129] 8 (fun g x wr => ∃ i : Nat, i + g = 8 ∧ x = .int .i64 i ∧ Hid (Fr (At Bs 0 8) w wr) ∧ Hid (Row wr Bs 0 8 .u32 (fun j => if j < i then (Sha.ad (s.get j) (S.get j) : Int) else (s.get j : Int))) ∧
                Hid (Blk wr Bv 103 .u32 [(S.a : Int), (S.b : Int), (S.c : Int), (S.d : Int), (S.e : Int), (S.f : Int), (S.g : Int), (S.h : Int)]))
              case atStart => exact ⟨0, rfl, rfl, hFA, Lib.hid (hst.out.congr fun j _ => by rw [if_neg (Nat.not_lt_zero _)]), hV⟩
              case round =>
                clear hFA hst hV
                obtain ⟨i, hi, rfl, hF, hR, hV⟩ := hrel
                by_cases h : i < 8
                · have t1 : decide ((i : Int) < 8) = true := by rw [decide_eq_true_eq]; omega
                  have r0 : (i : Int) < 8 := by omega
                  have cs : wr.cell? ⟨Bs, i, none⟩ = some (.int .u32 (s.get i : Int)) := by have := hR.out.cell i h; rw [Nat.zero_add, if_neg (Nat.lt_irrefl _)] at this; exact this
                  have zs : wr.frozen? ⟨Bs, i, none⟩ = false := by have := hR.out.free i h; rw [Nat.zero_add] at this; exact this
                  have cv := hV.out.cell i _ (s8_list S i h)
                  have s1 := ad_cast (s.get i) (S.get i)
                  obtain ⟨v, hv⟩ : ∃ v, v = Sha.ad (s.get i) (S.get i) := ⟨_, rfl⟩
                  rw [← hv] at s1
                  have HV := Lib.hid hv
                  clear hv
                  generalize hx : s.get i = x at *
                  generalize hy : S.get i = y at *
                  have HXY := Lib.hid (show _ ∧ _ from ⟨hx, hy⟩)
                  clear hx hy
                  have HI := Lib.hid hi
                  have H8 := Lib.hid h
                  clear hi h
                  have DS : ∀ d, ({ wr with drawn := d } : World).cell? ⟨Bs, i, none⟩ = _ := fun _ => cs
                  have DV : ∀ d, ({ wr with drawn := d } : World).cell? ⟨Bv, i, none⟩ = _ := fun _ => cv
                  go_upto_region 24 with fail
                  go_still_tail 11, (by kernel_rfl)
                  change wpList _ _ _ _ _ wr.drew
                  have hF2 := Lib.hid hF.out.drew
                  have hR2 := Lib.hid hR.out.drew
                  have hV2 := Lib.hid hV.out.drew
                  have cs2 : wr.drew.cell? ⟨Bs, i, none⟩ = some (.int .u32 x) := cs
                  have zs2 : wr.drew.frozen? ⟨Bs, i, none⟩ = false := zs
                  clear DS DV cs zs cv hF hR hV
                  generalize wr.drew = w2 at *
                  go_wp2_with fail
                  go_roundg (8 - (i + 1))
                  case rel =>
                    have hR' := hR2.out.set (i := i) H8.out (v : Int)
                    rw [Nat.zero_add] at hR'
                    refine ⟨i + 1, by have := H8.out; omega, by go_num, ?_, ?_, ?_⟩
                    · exact Lib.hid (hF2.out.setCell Bs i _ (fun _ => ⟨rfl, Nat.zero_le _, H8.out⟩))
                    · refine Lib.hid (hR'.congr fun j hj => ?_)
                      by_cases e : j = i
                      · subst e; rw [if_pos rfl, if_pos (Nat.lt_succ_self _), HV.out, HXY.out.1, HXY.out.2]
                      · rw [if_neg e]
                        by_cases e' : j < i
                        · rw [if_pos e', if_pos (by omega)]
                        · rw [if_neg e', if_neg (by omega)]
                    · exact Lib.hid (hV2.out.other (a := ⟨Bs, i, none⟩) (by have := HZ.out.1; have := HBV.out; show Bs ≠ _; omega) _)
                  case measure => have := HI.out; omega
                · obtain rfl : i = 8 := by omega
                  have t1 : decide (((8 : Nat) : Int) < 8) = false := by decide
                  clear hi h
                  go_wp2_with fail
                  go_end0
                  refine ⟨rfl, hF.out, hR.out.congr fun j hj => ?_⟩
                  rw [if_pos hj, Sha.blk_get, hS.out, HM.out]
end Go.Proofs.YtelikpkekloffaaDoor
