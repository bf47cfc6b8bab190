/- group.digits and group.power of this program, walked: a power modulo P of a number below P; what lay before lies as it lay. -/
import Derived.RangeFuncNested
import Derived.RangeFuncBound
import Derived.RangeFuncCalls
import Derived.RangeFuncLeaves
import Derived.Shelf.Abstract
import Derived.Shelf.RegionOpen
import Derived.OwnWalkIn
import Derived.TacticsInMore
import Derived.LoopNIn
import Derived.LoopIn
import Derived.Test.YtelikpkekloffaaDoorTimes
namespace Go.Proofs.YtelikpkekloffaaDoor
open Go.RowKit Go.Shelf
attribute [local go_sem] Oper.semAt_some

/-- the cell of block B stays what it was. -/
def KeepsCell (B : Nat) (W W' : World) : Prop := ∀ v, W.cell? ⟨B, 0, none⟩ = some v → W'.cell? ⟨B, 0, none⟩ = some v
theorem keepsCell_t {B : Nat} {X Y Z : World} (h : KeepsCell B X Y) (k : KeepsCell B Y Z) : KeepsCell B X Z := fun v hv => k v (h v hv)
theorem keepsCell_b {B : Nat} (W : World) (l : Nat) (o o' : Obj) (h : W.heap[l]? = some o) (hc : o.isCells = false) : KeepsCell B W (W.putObj l o') :=
  fun _ hv => cell_kept hv (grownBy_putObj' W l o') (fun r e => by cases e; exact ⟨o, h, hc⟩)

theorem cell_new_l (W : World) (v : Value) (t : TypeId) : (W.alloc (.cells #[v] t)).cell? ⟨W.heap.size, 0, none⟩ = some v ∧ (W.alloc (.cells #[v] t)).frozen? ⟨W.heap.size, 0, none⟩ = false := by
  exact ⟨by simp [World.cell?_alloc_new], by simp⟩
theorem cell_alloc_l {W : World} {a : Addr} {v : Value} (o : Obj) (h : W.cell? a = some v) : (W.alloc o).cell? a = some v := cell_kept h (World.grownBy_alloc W o none) (fun r e => by cases e)
theorem frozen_alloc_l {W : World} {a : Addr} {v : Value} (o : Obj) (h : W.cell? a = some v) (hf : W.frozen? a = false) : (W.alloc o).frozen? a = false := (frozen_kept h (World.grownBy_alloc W o none) (fun r e => by cases e)).trans hf

/-- from W to W' only draws and stores into the cell of block B. -/
structure OnlyAt (B : Nat) (W W' : World) : Prop where
  others : KeepsOthers W W'
  below : Below B W W'
  cells : ∀ b, b ≠ B → W'.cell? ⟨b, 0, none⟩ = W.cell? ⟨b, 0, none⟩
  frozen : ∀ b, W'.frozen? ⟨b, 0, none⟩ = W.frozen? ⟨b, 0, none⟩
theorem OnlyAt.refl (B : Nat) (W : World) : OnlyAt B W W := ⟨KeepsOthers.refl _, Below.refl _ _, fun _ _ => rfl, fun _ => rfl⟩
theorem OnlyAt.drewN {B : Nat} {W W' : World} (h : OnlyAt B W W') (n : Nat) : OnlyAt B W (W'.drewN n) :=
  ⟨h.others.trans ⟨Nat.le_refl _, fun _ _ h _ => h⟩, below_drewN h.below n, fun b hb => h.cells b hb, fun b => h.frozen b⟩
theorem OnlyAt.store {B : Nat} {W W' : World} (h : OnlyAt B W W') (v : Value) : OnlyAt B W (W'.setCell ⟨B, 0, none⟩ v) :=
  ⟨h.others.trans (KeepsOthers.setCell _ _ _), h.below.setCell (p := ⟨B, 0, none⟩) (Nat.le_refl _) _,
    fun b hb => by rw [World.cell?_setCell_other _ _ _ _ (fun e => hb (by cases e; rfl))]; exact h.cells b hb,
    fun b => by rw [World.frozen?_setCell]; exact h.frozen b⟩

theorem bit_and (x : Nat) (h : x < 18446744073709551616) : bits .and .u64 (x : Int) 1 = ((x % 2 : Nat) : Int) := by
  have h1 := bits_and_u64_nat x 1 h (by decide)
  rw [Nat.and_one_is_mod] at h1
  exact h1
theorem bl_all (k : Nat) (h : k < 18446744073709551616) : k < 2 ^ Lib.bitLen k := by
  by_cases h0 : k = 0
  · subst h0; exact Nat.two_pow_pos _
  · exact (bl_bounds 64 k (Nat.le_refl _) h h0).2.2
theorem castShr (k i : Nat) : (k : Int) / 2 ^ i = ((k / 2 ^ i : Nat) : Int) := by simp

set_option maxHeartbeats 1000000 in
theorem digits_in (F : Fence) (n : Nat) (h : F.fn 94) (hro : F.round = none) (k : Nat) (w : World) :
    CallsIn F n Tryd.prog 94 #[.int .u64 k] w fun e w' => e = .returned (.func (.func 109) #[] #[.pointer (some ⟨w.heap.size, 0, none⟩)]) ∧ w' = w.alloc (.cells #[.int .u64 k] 75) := by
  refine callsIn_of_wp Tryd.func94 rfl h ?_ hro
  simp only [Tryd.ntmps94, List.size_toArray, List.length_cons, List.length_nil, Nat.reduceAdd, Nat.reduceSub, Array.replicate_succ, Array.replicate_zero, List.push_toArray, List.append_toArray, List.nil_append, List.cons_append]
  gi_wp2
  go_ret
  exact ⟨rfl, rfl⟩

set_option maxRecDepth 100000 in
set_option maxHeartbeats 2000000 in
theorem digits1_in (n : Nat) (hn : 1 ≤ n) (l Bk k : Nat) (hk : k < 18446744073709551616) (J Jx : List Bool → World → Prop)
    (hY : ∀ pre x W, J pre W → pre.length < Lib.bitLen k → YieldAt Fence.wide (n - 1) Tryd.prog l #[.bool x] W fun e W' =>
      (e = .returned (.bool true) ∧ J (pre ++ [x]) W' ∧ KeepsCell Bk W W') ∨ (e = .returned (.bool false) ∧ Jx (pre ++ [x]) W'))
    (W : World) (hBk : W.cell? ⟨Bk, 0, none⟩ = some (.int .u64 k)) (h0 : J [] W) :
    CallsIn Fence.wide n Tryd.prog 109 #[.func (.yield l) #[] #[], .pointer (some ⟨Bk, 0, none⟩)] W fun e W' => (∃ v, e = .returned v) ∧
      ((∃ ys, ys = Gp.upto (Gp.bitAt (Lib.bitLen k) k) (Lib.bitLen k) ∧ J ys W') ∨ (∃ pre, (∃ j, j ≤ Lib.bitLen k ∧ pre = Gp.upto (Gp.bitAt (Lib.bitLen k) k) j) ∧ Jx pre W')) := by
  have c1 := len64_any (k : Int) W (by omega) (by omega)
  have hL := bitLen_le64 (k : Int) (by omega) (by omega)
  rw [Int.toNat_natCast] at c1 hL
  generalize Lib.bitLen k = L at *
  have C1 := Lib.hid c1
  clear c1
  refine callsIn_of_wp Tryd.func109 rfl trivial ?_ rfl
  simp only [Tryd.ntmps109, List.size_toArray, List.length_cons, List.length_nil, Nat.reduceAdd, Nat.reduceSub, Array.replicate_succ, Array.replicate_zero, List.push_toArray, List.append_toArray, List.nil_append, List.cons_append]
  gi_wp2_with (refine ⟨trivial, ?_⟩; gi_at_call 110; refine (callsIn_wide.2 C1.out).mono ?_; rintro e w' ⟨rfl, rfl⟩)
  clear C1
  have hL64 : (L : Int) ≤ 64 := by omega
  gi_loopw [3] (fun s3 wr => ∃ (j : Nat) (x : Int), j ≤ L ∧ Hid (x = (L : Int) - 1 - j) ∧ s3 = .int .i64 x ∧ J (Gp.upto (Gp.bitAt L k) j) wr ∧ wr.cell? ⟨Bk, 0, none⟩ = some (.int .u64 k))
    (fun s3 _ => (intOf s3 + 1).toNat)
  case atStart => exact ⟨0, (L : Int) - 1, Nat.zero_le _, Lib.hid (by omega), rfl, h0, hBk⟩
  case round =>
    obtain ⟨j, x, hj, hx, rfl, hJs, hc⟩ := hrel
    by_cases hlt : j < L
    · obtain ⟨i, rfl⟩ : ∃ i : Nat, x = (i : Int) := ⟨L - 1 - j, by have := hx.out; omega⟩
      obtain ⟨bv, hbv⟩ : ∃ bv, bv = Gp.bitAt L k j := ⟨_, rfl⟩
      obtain ⟨fn, tmps, assign, body, hy, hR⟩ := hY _ bv wr hJs (by rw [Gp.upto_length]; exact hlt)
      have hi : i < 64 := by have := hx.out; omega
      have hb : bits .and .u64 ((k : Int) / 2 ^ i) 1 = ((k / 2 ^ i % 2 : Nat) : Int) := by
        rw [castShr]; exact bit_and _ (Nat.lt_of_le_of_lt (Nat.div_le_self _ _) hk)
      have hbb : ((((k / 2 ^ i % 2 : Nat) : Int)) == 1) = bv := by
        have e : i = L - 1 - j := by have := hx.out; omega
        rw [hbv]
        unfold Gp.bitAt
        rw [← e]
        generalize k / 2 ^ i % 2 = t
        rw [Bool.eq_iff_iff, beq_iff_eq, beq_iff_eq]
        omega
      have HB := Lib.hid hbv
      clear hbv
      generalize k / 2 ^ i % 2 = t at *
      gi_wp2
      refine hR.mono ?_
      rintro e W3 (⟨rfl, hJ3, hk3⟩ | ⟨rfl, hJx3⟩)
      · have hc3 := hk3 _ hc
        gi_wp2
        go_roundw
        case rel => exact ⟨j + 1, (i : Int) - 1, by omega, Lib.hid (by have := hx.out; omega), rfl, by rw [Gp.upto_succ, ← HB.out]; exact hJ3, hc3⟩
        case measure => simp [intOf]
      · gi_wp2
        refine bodyPost_ret (results_none rfl _ _ _) rfl ?_
        exact ⟨⟨_, rfl⟩, .inr ⟨_, ⟨j + 1, by omega, by rw [Gp.upto_succ, ← HB.out]⟩, hJx3⟩⟩
    · obtain rfl : x = -1 := by have := hx.out; omega
      obtain rfl : j = L := by omega
      gi_wp2
      go_end0
      exact ⟨⟨_, rfl⟩, .inl ⟨_, rfl, hJs⟩⟩

theorem digits_stops (n : Nat) (hn : 1 ≤ n) (Bk k : Nat) (hk : k < 18446744073709551616) (w : World) (hB : Bk < w.heap.size) (hc : w.cell? ⟨Bk, 0, none⟩ = some (.int .u64 k)) :
    SeqStopsK Fence.wide n Tryd.prog 109 #[.pointer (some ⟨Bk, 0, none⟩)] (fun x : Bool => #[Value.bool x]) (KeepsCell Bk)
      (fun ys => ys = Gp.upto (Gp.bitAt (Lib.bitLen k) k) (Lib.bitLen k)) (fun pre => ∃ j, j ≤ Lib.bitLen k ∧ pre = Gp.upto (Gp.bitAt (Lib.bitLen k) k) j) (Lib.bitLen k) w := fun l J Jx W hW _ _ hY h0 =>
  digits1_in n hn l Bk k hk J Jx hY W ((hW.cell (p := ⟨Bk, 0, none⟩) hB).trans hc) h0

set_option maxRecDepth 100000 in
set_option maxHeartbeats 2000000 in
theorem power_any (a k : Nat) (ha : a < 4611686018427377339) (hk : k < 18446744073709551616) (w : World) :
    Calls Tryd.prog 63 #[.int .u64 a, .int .u64 k] w fun e w' => e = .returned (.int .u64 (Gp.pw 4611686018427377339 a k)) ∧ Below w.heap.size w w' := by
  refine (callsIn_wide (n := 3)).1 ?_
  refine callsIn_of_wp_marks Tryd.func63 rfl trivial ?_ rfl
  simp only [Tryd.ntmps63, List.size_toArray, List.length_cons, List.length_nil, Nat.reduceAdd, Nat.reduceSub, Array.replicate_succ, Array.replicate_zero, List.push_toArray, List.append_toArray, List.nil_append, List.cons_append]
  gi_wp2_with (refine ⟨trivial, ?_⟩; gi_at_call 94; refine (digits_in Fence.wide _ trivial rfl k _).mono ?_; rintro e w' ⟨rfl, rfl⟩)
  have m0 := cell_new_l w (.int .u64 a) 75
  have m1 := cell_new_l (w.alloc (.cells #[.int .u64 a] 75)) (.int .u64 1) 75
  have m2 := cell_new_l ((w.alloc (.cells #[.int .u64 a] 75)).alloc (.cells #[.int .u64 1] 75)) (.int .u64 k) 75
  simp only [World.size_alloc] at m1 m2
  have hB0 : Below w.heap.size w (((w.alloc (.cells #[.int .u64 a] 75)).alloc (.cells #[.int .u64 1] 75)).alloc (.cells #[.int .u64 k] 75)) :=
    (((Below.refl _ w).alloc (Nat.le_refl _) _).alloc (by simp) _).alloc (by simp; omega) _
  refine wpIn_rangeFunc_ownF rfl (by omega) (gf := 109) (lb := #[.pointer (some ⟨w.heap.size + 1 + 1, 0, none⟩)]) rfl trivial (enters_of Tryd.func109 (by kernel_rfl) rfl)
    (digits_stops 2 (by omega) (w.heap.size + 1 + 1) k hk _ (by simp) m2.1) keepsCell_t (fun W l o o' _ h hc _ => keepsCell_b W l o o' h hc) (Below.refl _ _) (fun _ => rfl)
    (fun pre W => (W.cell? ⟨w.heap.size, 0, none⟩ = some (.int .u64 a) ∧ W.cell? ⟨w.heap.size + 1, 0, none⟩ = some (.int .u64 (Gp.run 4611686018427377339 a pre)) ∧ W.frozen? ⟨w.heap.size + 1, 0, none⟩ = false) ∧ Below w.heap.size w W)
    (fun _ _ _ => False)
    (OwnFrom.and (Own.from (fun s A B row hs hg hr => ⟨cell_kept hs.1 hg hr, cell_kept hs.2.1 hg hr, (frozen_kept hs.2.1 hg hr).trans hs.2.2⟩) _) (ownFrom_below (Nat.le_refl _) (by simp; omega)))
    (fun _ _ _ _ _ hs _ _ => hs)
    ⟨⟨cell_alloc_l _ (cell_alloc_l _ m0.1), cell_alloc_l _ m1.1, frozen_alloc_l _ m1.1 m1.2⟩, hB0⟩
    (fun x => { tmps := #[.int .u64 a, .int .u64 k, .pointer (some ⟨w.heap.size, 0, none⟩), undef, .int .u64 0, .pointer (some ⟨w.heap.size + 1, 0, none⟩), .bool x, .int .u64 k, .func (.func 109) #[] #[.pointer (some ⟨w.heap.size + 1 + 1, 0, none⟩)], .bool x, undef, undef, undef, undef, undef, undef, undef, undef], defers := [] }) ?assign ?body ?done ?stop
  case assign =>
    intro l x W K hK
    gi_wp2
    exact hK
  case body =>
    rintro l pre x W ⟨⟨hca, hcc, hfc⟩, hB⟩ _
    have hr : Gp.run 4611686018427377339 a pre < 4611686018427377339 := Gp.run_lt (by decide) pre
    have hsn := Gp.run_snoc 4611686018427377339 a pre x
    have HSN := Lib.hid hsn
    clear hsn
    generalize Gp.run 4611686018427377339 a pre = c at *
    have t1 := times_any c c hr hr
    have hc2 : Gp.mu 4611686018427377339 c c < 4611686018427377339 := Gp.mu_lt (by decide)
    have t2 := times_any (Gp.mu 4611686018427377339 c c) a hc2 ha
    have T1 := Lib.hid t1
    have T2 := Lib.hid t2
    clear t1 t2 hc2 hr
    have e0 : Gp.step 4611686018427377339 a c false = Gp.mu 4611686018427377339 c c := rfl
    have e1 : Gp.step 4611686018427377339 a c true = Gp.mu 4611686018427377339 (Gp.mu 4611686018427377339 c c) a := rfl
    have E0 := Lib.hid e0
    have E1 := Lib.hid e1
    clear e0 e1
    generalize Gp.mu 4611686018427377339 (Gp.mu 4611686018427377339 c c) a = d2 at *
    generalize Gp.mu 4611686018427377339 c c = d1 at *
    have fin : ∀ (W' : World) (v : Nat), OnlyAt (w.heap.size + 1) W W' → v = Gp.step 4611686018427377339 a c x → W'.cell? ⟨w.heap.size + 1, 0, none⟩ = some (.int .u64 v) →
        KeepsOthers W W' ∧ KeepsCell (w.heap.size + 1 + 1) W W' ∧ (W'.cell? ⟨w.heap.size, 0, none⟩ = some (.int .u64 a) ∧ W'.cell? ⟨w.heap.size + 1, 0, none⟩ = some (.int .u64 (Gp.run 4611686018427377339 a (pre ++ [x]))) ∧ W'.frozen? ⟨w.heap.size + 1, 0, none⟩ = false) ∧ Below w.heap.size w W' := by
      intro W' v ho hv hcv
      refine ⟨ho.others, fun u hu => by rw [ho.cells _ (by omega)]; exact hu, ⟨by rw [ho.cells _ (by omega)]; exact hca, ?_, by rw [ho.frozen]; exact hfc⟩, hB.trans (ho.below.mono (by omega))⟩
      rw [HSN.out, ← hv]; exact hcv
    have FIN := Lib.hid fin
    clear fin
    cases x with
    | false =>
      gi_wp2_with (refine ⟨trivial, ?_⟩; gi_at_call 64; refine (CallsIn.inRound l (callsIn_wide.2 (T1.out _))).mono ?_; rintro e w' ⟨rfl, n, rfl⟩)
      exact FIN.out _ d1 (((OnlyAt.refl _ _).drewN _).store _) E0.out.symm (World.cell?_setCell_same' _ _ _ (by rw [World.cell?_drewN, hcc]; rfl))
    | true =>
      gi_wp2_with (first
        | (refine ⟨trivial, ?_⟩; gi_at_call 64; have T3 := T1; clear T1; refine (CallsIn.inRound l (callsIn_wide.2 (T3.out _))).mono ?_; rintro e w' ⟨rfl, n, rfl⟩)
        | (refine ⟨trivial, ?_⟩; gi_at_call 64; refine (CallsIn.inRound l (callsIn_wide.2 (T2.out _))).mono ?_; rintro e w' ⟨rfl, m, rfl⟩))
      exact FIN.out _ d2 (((((OnlyAt.refl _ _).drewN _).store _).drewN _).store _) E1.out.symm
        (World.cell?_setCell_same' _ _ _ (by rw [World.cell?_drewN, World.cell?_setCell_same' _ _ _ (by rw [World.cell?_drewN, hcc]; rfl)]; rfl))
  case done =>
    rintro D ys W hD rfl ⟨⟨hca, hcc, hfc⟩, hB⟩ hK
    have hk2 := (bl_all k hk)
    rw [Gp.run_all (by decide) hk2] at hcc
    gi_wp2
    refine ⟨by simp, .inl ⟨_, _, rfl, run_takeDeferred hK, ?_⟩⟩
    exact ⟨_, results_tmp rfl _ _ _, rfl, hB.trans (belowK_b (w := w) (Nat.le_refl _) W D _ _ (by simp at hD; omega) hK rfl rfl)⟩
  case stop =>
    rintro D c pre W _ _ h _
    exact h.elim
end Go.Proofs.YtelikpkekloffaaDoor
