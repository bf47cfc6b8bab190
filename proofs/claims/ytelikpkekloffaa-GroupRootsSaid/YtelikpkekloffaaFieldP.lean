/- field.binary, field.power and field.Inv of this program, walked at scalars: a power modulo Q, an inverse; what lay before lies as it lay. -/
import Derived.Test.YtelikpkekloffaaPower
import Derived.Test.YtelikpkekloffaaField
import Derived.Test.YtelikpkekloffaaLen
import Derived.Laws.EntriesVeiled
namespace Go.Proofs.Ytelikpkekloffaa
open Go.RowKit Go.Shelf
attribute [local go_sem] Oper.semAt_some

set_option maxHeartbeats 1000000 in
theorem binary_in (F : Fence) (n : Nat) (h : F.fn 39) (hro : F.round = none) (k : Nat) (w : World) :
    CallsIn F n Try.prog 39 #[.int .i64 k] w fun e w' => e = .returned (.func (.func 44) #[] #[.pointer (some ⟨w.heap.size, 0, none⟩)]) ∧ w' = w.alloc (.cells #[.int .i64 k] 3) := by
  refine callsIn_of_wp Try.func39 rfl h ?_ hro
  simp only [Try.ntmps39, List.size_toArray, List.length_cons, List.length_nil, Nat.reduceAdd, Nat.reduceSub, Array.replicate_succ, Array.replicate_zero, List.push_toArray, List.append_toArray, List.nil_append, List.cons_append]
  gi_wp2
  go_ret
  exact ⟨rfl, rfl⟩

theorem bit_and_i (x : Nat) (h : x < 9223372036854775808) : bits .and .i64 (x : Int) 1 = ((x % 2 : Nat) : Int) := by
  have h1 : (BitVec.ofInt 64 (x : Int)).toNat = x := by
    rw [BitVec.ofInt_natCast, BitVec.toNat_ofNat]; exact Nat.mod_eq_of_lt (by omega)
  have h2 : (BitVec.ofInt 64 1).toNat = 1 := by decide
  show IntKind.i64.wrap ((BitVec.ofInt 64 (x : Int) &&& BitVec.ofInt 64 1).toNat : Int) = _
  rw [BitVec.toNat_and, h1, h2, Nat.and_one_is_mod, IntKind.wrap_i64]
  omega

set_option maxRecDepth 100000 in
set_option maxHeartbeats 2000000 in
theorem binary1_in (n : Nat) (hn : 1 ≤ n) (l Bk k : Nat) (hk : k < 9223372036854775808) (J Jx : List Bool → World → Prop)
    (hY : ∀ pre x W, J pre W → pre.length < Lib.bitLen k → YieldAt Fence.wide (n - 1) Try.prog l #[.bool x] W fun e W' =>
      (e = .returned (.bool true) ∧ J (pre ++ [x]) W' ∧ KeepsCell Bk W W') ∨ (e = .returned (.bool false) ∧ Jx (pre ++ [x]) W'))
    (W : World) (hBk : W.cell? ⟨Bk, 0, none⟩ = some (.int .i64 k)) (h0 : J [] W) :
    CallsIn Fence.wide n Try.prog 44 #[.func (.yield l) #[] #[], .pointer (some ⟨Bk, 0, none⟩)] W fun e W' => (∃ v, e = .returned v) ∧
      ((∃ ys, ys = Gp.upto (Gp.bitAt (Lib.bitLen k) k) (Lib.bitLen k) ∧ J ys W') ∨ (∃ pre, (∃ j, j ≤ Lib.bitLen k ∧ pre = Gp.upto (Gp.bitAt (Lib.bitLen k) k) j) ∧ Jx pre W')) := by
  have c1 := len_any (k : Int) W (by omega) (by omega)
  have hL := bitLen_le64 (k : Int) (by omega) (by omega)
  rw [Int.toNat_natCast] at c1 hL
  generalize Lib.bitLen k = L at *
  have C1 := Lib.hid c1
  have hkb : (k : Int) < 9223372036854775808 := by omega
  have HK := Lib.hid hk
  clear c1 hk
  refine callsIn_of_wp Try.func44 rfl trivial ?_ rfl
  simp only [Try.ntmps44, List.size_toArray, List.length_cons, List.length_nil, Nat.reduceAdd, Nat.reduceSub, Array.replicate_succ, Array.replicate_zero, List.push_toArray, List.append_toArray, List.nil_append, List.cons_append]
  gi_wp2_with (refine ⟨trivial, ?_⟩; gi_at_call 45; refine (callsIn_wide.2 C1.out).mono ?_; rintro e w' ⟨rfl, rfl⟩)
  clear C1
  have hL64 : (L : Int) ≤ 64 := by omega
  gi_loopw [3] (fun s3 wr => ∃ (j : Nat) (x : Int), j ≤ L ∧ Hid (x = (L : Int) - 1 - j) ∧ s3 = .int .i64 x ∧ J (Gp.upto (Gp.bitAt L k) j) wr ∧ wr.cell? ⟨Bk, 0, none⟩ = some (.int .i64 k))
    (fun s3 _ => (intOf s3 + 1).toNat)
  case atStart => exact ⟨0, (L : Int) - 1, Nat.zero_le _, Lib.hid (by omega), rfl, h0, hBk⟩
  case round =>
    obtain ⟨j, x, hj, hx, rfl, hJs, hc⟩ := hrel
    by_cases hlt : j < L
    · obtain ⟨i, rfl⟩ : ∃ i : Nat, x = (i : Int) := ⟨L - 1 - j, by have := hx.out; omega⟩
      obtain ⟨bv, hbv⟩ : ∃ bv, bv = Gp.bitAt L k j := ⟨_, rfl⟩
      obtain ⟨fn, tmps, assign, body, hy, hR⟩ := hY _ bv wr hJs (by rw [Gp.upto_length]; exact hlt)
      have hi : i < 64 := by have := hx.out; omega
      have hb : bits .and .i64 ((k : Int) / 2 ^ i) 1 = ((k / 2 ^ i % 2 : Nat) : Int) := by
        rw [castShr]; exact bit_and_i _ (Nat.lt_of_le_of_lt (Nat.div_le_self _ _) HK.out)
      have hbb : ((((k / 2 ^ i % 2 : Nat) : Int)) == 1) = bv := by
        have e : i = L - 1 - j := by have := hx.out; omega
        rw [hbv]
        unfold Gp.bitAt
        rw [← e]
        generalize k / 2 ^ i % 2 = t
        rw [Bool.eq_iff_iff, beq_iff_eq, beq_iff_eq]
        omega
      have HB := Lib.hid hbv
      clear hbv
      generalize k / 2 ^ i % 2 = t at *
      gi_wp2
      refine hR.mono ?_
      rintro e W3 (⟨rfl, hJ3, hk3⟩ | ⟨rfl, hJx3⟩)
      · have hc3 := hk3 _ hc
        gi_wp2
        go_roundw
        case rel => exact ⟨j + 1, (i : Int) - 1, by omega, Lib.hid (by have := hx.out; omega), rfl, by rw [Gp.upto_succ, ← HB.out]; exact hJ3, hc3⟩
        case measure => simp [intOf]
      · gi_wp2
        refine bodyPost_ret (results_none rfl _ _ _) rfl ?_
        exact ⟨⟨_, rfl⟩, .inr ⟨_, ⟨j + 1, by omega, by rw [Gp.upto_succ, ← HB.out]⟩, hJx3⟩⟩
    · obtain rfl : x = -1 := by have := hx.out; omega
      obtain rfl : j = L := by omega
      gi_wp2
      go_end0
      exact ⟨⟨_, rfl⟩, .inl ⟨_, rfl, hJs⟩⟩

theorem binary_stops (n : Nat) (hn : 1 ≤ n) (Bk k : Nat) (hk : k < 9223372036854775808) (w : World) (hB : Bk < w.heap.size) (hc : w.cell? ⟨Bk, 0, none⟩ = some (.int .i64 k)) :
    SeqStopsK Fence.wide n Try.prog 44 #[.pointer (some ⟨Bk, 0, none⟩)] (fun x : Bool => #[Value.bool x]) (KeepsCell Bk)
      (fun ys => ys = Gp.upto (Gp.bitAt (Lib.bitLen k) k) (Lib.bitLen k)) (fun pre => ∃ j, j ≤ Lib.bitLen k ∧ pre = Gp.upto (Gp.bitAt (Lib.bitLen k) k) j) (Lib.bitLen k) w := fun l J Jx W hW _ _ hY h0 =>
  binary1_in n hn l Bk k hk J Jx hY W ((hW.cell (p := ⟨Bk, 0, none⟩) hB).trans hc) h0

/-- the closure 'times': c becomes c * b. -/
theorem ftimes_any (B c b : Nat) (hc : c < 2305843009213688669) (hb : b < 2305843009213688669) (w : World) (h : w.cell? ⟨B, 0, none⟩ = some (.int .i64 c)) (hf : w.frozen? ⟨B, 0, none⟩ = false) :
    Calls Try.prog 38 #[.int .i64 b, .pointer (some ⟨B, 0, none⟩)] w fun e w' => e = .returned (.tuple #[]) ∧ ∃ n, w' = (w.drewN n).setCell ⟨B, 0, none⟩ (.int .i64 (Gp.mu 2305843009213688669 c b : Nat)) := by
  have C1 := Lib.hid (fun w => fproduct_any c b hc hb w)
  generalize Gp.mu 2305843009213688669 c b = r at *
  clear hc hb
  go_enter Try.func38, Try.ntmps38
  go_wp2_with fail
  refine (C1.out _).mono ?_
  rintro e w1 ⟨rfl, n, rfl⟩
  go_wp2_with fail
  go_end0
  exact ⟨rfl, n, rfl⟩

set_option maxRecDepth 100000 in
set_option maxHeartbeats 2000000 in
theorem fpower_any (a k : Nat) (ha : a < 2305843009213688669) (hk : k < 9223372036854775808) (w : World) :
    Calls Try.prog 31 #[.int .i64 a, .int .i64 k] w fun e w' => e = .returned (.int .i64 (Gp.pw 2305843009213688669 a k : Nat)) ∧ Below w.heap.size w w' := by
  refine (callsIn_wide (n := 3)).1 ?_
  refine callsIn_of_wp_marks Try.func31 rfl trivial ?_ rfl
  simp only [Try.ntmps31, List.size_toArray, List.length_cons, List.length_nil, Nat.reduceAdd, Nat.reduceSub, Array.replicate_succ, Array.replicate_zero, List.push_toArray, List.append_toArray, List.nil_append, List.cons_append]
  gi_wp2_with (refine ⟨trivial, ?_⟩; gi_at_call 39; refine (binary_in Fence.wide _ trivial rfl k _).mono ?_; rintro e w' ⟨rfl, rfl⟩)
  have m0 := cell_new_l w (.int .i64 a) 3
  have m1 := cell_new_l (w.alloc (.cells #[.int .i64 a] 3)) (.int .i64 1) 3
  have m2 := cell_new_l ((w.alloc (.cells #[.int .i64 a] 3)).alloc (.cells #[.int .i64 1] 3)) (.func (.func 38) #[] #[.pointer (some ⟨w.heap.size + 1, 0, none⟩)]) 51
  have m3 := cell_new_l (((w.alloc (.cells #[.int .i64 a] 3)).alloc (.cells #[.int .i64 1] 3)).alloc (.cells #[.func (.func 38) #[] #[.pointer (some ⟨w.heap.size + 1, 0, none⟩)]] 51)) (.int .i64 k) 3
  simp only [World.size_alloc] at m1 m2 m3
  have hB0 : Below w.heap.size w ((((w.alloc (.cells #[.int .i64 a] 3)).alloc (.cells #[.int .i64 1] 3)).alloc (.cells #[.func (.func 38) #[] #[.pointer (some ⟨w.heap.size + 1, 0, none⟩)]] 51)).alloc (.cells #[.int .i64 k] 3)) :=
    ((((Below.refl _ w).alloc (Nat.le_refl _) _).alloc (by simp) _).alloc (by simp; omega) _).alloc (by simp; omega) _
  refine wpIn_rangeFunc_ownF rfl (by omega) (gf := 44) (lb := #[.pointer (some ⟨w.heap.size + 1 + 1 + 1, 0, none⟩)]) rfl trivial (enters_of Try.func44 (by kernel_rfl) rfl)
    (binary_stops 2 (by omega) (w.heap.size + 1 + 1 + 1) k hk _ (by simp) m3.1) keepsCell_t (fun W l o o' _ h hc _ => keepsCell_b W l o o' h hc) (Below.refl _ _) (fun _ => rfl)
    (fun pre W => (W.cell? ⟨w.heap.size, 0, none⟩ = some (.int .i64 a) ∧ W.cell? ⟨w.heap.size + 1 + 1, 0, none⟩ = some (.func (.func 38) #[] #[.pointer (some ⟨w.heap.size + 1, 0, none⟩)]) ∧ W.cell? ⟨w.heap.size + 1, 0, none⟩ = some (.int .i64 (Gp.run 2305843009213688669 a pre)) ∧ W.frozen? ⟨w.heap.size + 1, 0, none⟩ = false) ∧ Below w.heap.size w W)
    (fun _ _ _ => False)
    (OwnFrom.and (Own.from (fun s A B row hs hg hr => ⟨cell_kept hs.1 hg hr, cell_kept hs.2.1 hg hr, cell_kept hs.2.2.1 hg hr, (frozen_kept hs.2.2.1 hg hr).trans hs.2.2.2⟩) _) (ownFrom_below (Nat.le_refl _) (by simp; omega)))
    (fun _ _ _ _ _ hs _ _ => hs)
    ⟨⟨cell_alloc_l _ (cell_alloc_l _ (cell_alloc_l _ m0.1)), cell_alloc_l _ m2.1, cell_alloc_l _ (cell_alloc_l _ m1.1), frozen_alloc_l _ (cell_alloc_l _ m1.1) (frozen_alloc_l _ m1.1 m1.2)⟩, hB0⟩
    (fun x => { tmps := #[.int .i64 a, .int .i64 k, .pointer (some ⟨w.heap.size, 0, none⟩), undef, .int .i64 0, .pointer (some ⟨w.heap.size + 1, 0, none⟩), .pointer (some ⟨w.heap.size + 1 + 1, 0, none⟩), .bool x, .func (.func 38) #[] #[.pointer (some ⟨w.heap.size + 1, 0, none⟩)], .int .i64 k, .func (.func 44) #[] #[.pointer (some ⟨w.heap.size + 1 + 1 + 1, 0, none⟩)], .bool x, undef, undef, undef, undef, undef, undef, undef, undef], defers := [] }) ?assign ?body ?done ?stop
  case assign =>
    intro l x W K hK
    gi_wp2
    exact hK
  case body =>
    rintro l pre x W ⟨⟨hca, hcf, hcc, hfc⟩, hB⟩ _
    have hr : Gp.run 2305843009213688669 a pre < 2305843009213688669 := Gp.run_lt (by decide) pre
    have hsn := Gp.run_snoc 2305843009213688669 a pre x
    have HSN := Lib.hid hsn
    clear hsn
    generalize Gp.run 2305843009213688669 a pre = c at *
    have hc2 : Gp.mu 2305843009213688669 c c < 2305843009213688669 := Gp.mu_lt (by decide)
    have T1 := Lib.hid (fun W => ftimes_any (w.heap.size + 1) c c hr hr W)
    have T2 := Lib.hid (fun W => ftimes_any (w.heap.size + 1) (Gp.mu 2305843009213688669 c c) a hc2 ha W)
    clear hc2 hr
    have e0 : Gp.step 2305843009213688669 a c false = Gp.mu 2305843009213688669 c c := rfl
    have e1 : Gp.step 2305843009213688669 a c true = Gp.mu 2305843009213688669 (Gp.mu 2305843009213688669 c c) a := rfl
    have E0 := Lib.hid e0
    have E1 := Lib.hid e1
    clear e0 e1
    generalize Gp.mu 2305843009213688669 (Gp.mu 2305843009213688669 c c) a = d2 at *
    generalize Gp.mu 2305843009213688669 c c = d1 at *
    have fin : ∀ (W' : World) (v : Nat), OnlyAt (w.heap.size + 1) W W' → v = Gp.step 2305843009213688669 a c x → W'.cell? ⟨w.heap.size + 1, 0, none⟩ = some (.int .i64 v) →
        KeepsOthers W W' ∧ KeepsCell (w.heap.size + 1 + 1 + 1) W W' ∧ (W'.cell? ⟨w.heap.size, 0, none⟩ = some (.int .i64 a) ∧ W'.cell? ⟨w.heap.size + 1 + 1, 0, none⟩ = some (.func (.func 38) #[] #[.pointer (some ⟨w.heap.size + 1, 0, none⟩)]) ∧ W'.cell? ⟨w.heap.size + 1, 0, none⟩ = some (.int .i64 (Gp.run 2305843009213688669 a (pre ++ [x]))) ∧ W'.frozen? ⟨w.heap.size + 1, 0, none⟩ = false) ∧ Below w.heap.size w W' := by
      intro W' v ho hv hcv
      refine ⟨ho.others, fun u hu => by rw [ho.cells _ (by omega)]; exact hu, ⟨by rw [ho.cells _ (by omega)]; exact hca, by rw [ho.cells _ (by omega)]; exact hcf, ?_, by rw [ho.frozen]; exact hfc⟩, hB.trans (ho.below.mono (by omega))⟩
      rw [HSN.out, ← hv]; exact hcv
    have FIN := Lib.hid fin
    clear fin
    cases x with
    | false =>
      gi_wp2_with (refine ⟨trivial, ?_⟩; gi_at_call 38; refine (CallsIn.inRound l (callsIn_wide.2 (T1.out _ hcc hfc))).mono ?_; rintro e w' ⟨rfl, n, rfl⟩)
      exact FIN.out _ d1 (((OnlyAt.refl _ _).drewN _).store _) E0.out.symm (World.cell?_setCell_same' _ _ _ (by rw [World.cell?_drewN, hcc]; rfl))
    | true =>
      gi_wp2_with (refine ⟨trivial, ?_⟩; gi_at_call 38; have T3 := T1; clear T1; refine (CallsIn.inRound l (callsIn_wide.2 (T3.out _ hcc hfc))).mono ?_; rintro e w' ⟨rfl, n, rfl⟩)
      have g1 : ((W.drewN n).setCell ⟨w.heap.size + 1, 0, none⟩ (.int .i64 d1)).cell? ⟨w.heap.size + 1, 0, none⟩ = some (.int .i64 d1) := World.cell?_setCell_same' _ _ _ (by rw [World.cell?_drewN, hcc]; rfl)
      have g2 : ((W.drewN n).setCell ⟨w.heap.size + 1, 0, none⟩ (.int .i64 d1)).frozen? ⟨w.heap.size + 1, 0, none⟩ = false := by rw [World.frozen?_setCell]; exact hfc
      refine ⟨trivial, (CallsIn.inRound l (callsIn_wide.2 (T2.out _ g1 g2))).mono ?_⟩
      rintro e w' ⟨rfl, m, rfl⟩
      gi_wp2
      exact FIN.out _ d2 (((((OnlyAt.refl _ _).drewN _).store _).drewN _).store _) E1.out.symm
        (World.cell?_setCell_same' _ _ _ (by rw [World.cell?_drewN, g1]; rfl))
  case done =>
    rintro D ys W hD rfl ⟨⟨hca, hcf, hcc, hfc⟩, hB⟩ hK
    have hk2 := bl_all k (by omega)
    rw [Gp.run_all (by decide) hk2] at hcc
    gi_wp2
    refine ⟨by simp, .inl ⟨_, _, rfl, run_takeDeferred hK, ?_⟩⟩
    exact ⟨_, results_tmp rfl _ _ _, rfl, hB.trans (belowK_b (w := w) (Nat.le_refl _) W D _ _ (by simp at hD; omega) hK rfl rfl)⟩
  case stop =>
    rintro D c pre W _ _ h _
    exact h.elim

set_option maxHeartbeats 1000000 in
theorem finv_ok (k : Nat) (h0 : k ≠ 0) (hk : k < 2305843009213688669) (w : World) :
    Calls Try.prog 23 #[.int .i64 k] w fun e w' => e = .returned (.tuple #[.int .i64 (Gp.pw 2305843009213688669 k 2305843009213688667 : Nat), .int .i64 0]) ∧ Below w.heap.size w w' := by
  have hcell : ∀ i, i < 1 → (w.alloc (.cells #[.int .i64 k] 3)).cell? ⟨w.heap.size, i, none⟩ = some (.int .i64 (k : Int)) := by
    intro i hi
    obtain rfl : i = 0 := by omega
    exact (cell_new_l w (.int .i64 k) 3).1
  have C1 := Lib.hid (outside_no w.heap.size 1 (fun _ => (k : Int)) (by decide) (fun _ _ => Gp.isSc_of hk) _ hcell)
  have c2 : ∀ w, Calls Try.prog 31 #[.int .i64 k, .int .i64 2305843009213688667] w fun e w' => e = .returned (.int .i64 (Gp.pw 2305843009213688669 k 2305843009213688667 : Nat)) ∧ Below w.heap.size w w' :=
    fun w => fpower_any k 2305843009213688667 hk (by decide) w
  generalize Gp.pw 2305843009213688669 k 2305843009213688667 = r at *
  have C2 := Lib.hid c2
  have t1 : ((k : Int) == 0) = false := by rw [beq_eq_false_iff_ne]; omega
  clear h0 hk hcell c2
  go_enter Try.func23, Try.ntmps23
  go_wp2_with fail
  refine C1.out.mono ?_
  rintro e w1 ⟨rfl, rfl⟩
  go_wp2_with fail
  refine (C2.out _).mono ?_
  rintro e w2 ⟨rfl, hb⟩
  go_wp2_with fail
  go_ret2
  exact ⟨rfl, ((Below.refl _ _).alloc (Nat.le_refl _) _).trans (hb.mono (by simp))⟩
end Go.Proofs.Ytelikpkekloffaa
