/- sign.Public, Sign, Verify; ref05.Key of this program, walked. -/
import Derived.Test.YtelikpkekloffaaDoorBytesD
import Derived.Test.YtelikpkekloffaaDoorElW
import Derived.Deep.RegionHeld3
namespace Go.Proofs.YtelikpkekloffaaDoor
open Go.RowKit

theorem and_mask (n : Int) : ∃ m : Nat, bits .and .i64 n 4611686018427387903 = (m : Int) ∧ m < 4611686018427387904 := by
  have h : (BitVec.ofInt 64 n &&& BitVec.ofInt 64 4611686018427387903).toNat < 2 ^ 62 := by
    rw [BitVec.toNat_and]
    exact Nat.and_lt_two_pow _ (by decide)
  refine ⟨(BitVec.ofInt 64 n &&& BitVec.ofInt 64 4611686018427387903).toNat, ?_, h⟩
  show IntKind.i64.wrap ((BitVec.ofInt 64 n &&& BitVec.ofInt 64 4611686018427387903).toNat : Int) = _
  generalize (BitVec.ofInt 64 n &&& BitVec.ofInt 64 4611686018427387903).toNat = z at h ⊢
  rw [IntKind.wrap_i64]
  omega

set_option maxHeartbeats 1000000 in
theorem of_any (n : Int) (w : World) : ∃ y : Nat, y < 2305843009213688669 ∧ Calls Tryd.prog 58 #[.int .i64 n] w fun e w' => e = .returned (.int .i64 y) ∧ w' = w := by
  obtain ⟨m, e1, hm⟩ := and_mask n
  obtain ⟨y, hy⟩ : ∃ y, y = m % 2305843009213688669 := ⟨_, rfl⟩
  have e2 : (m : Int).tmod 2305843009213688669 = (y : Int) := by rw [Int.tmod_eq_emod_of_nonneg (by omega)]; omega
  have e3 : (m : Int) % 2305843009213688669 = (y : Int) := by omega
  refine ⟨y, by omega, ?_⟩
  have b1 : (m : Int) < 4611686018427387904 := by omega
  clear hm hy
  go_enter Tryd.func58, Tryd.ntmps58
  go_wp2_with fail
  go_ret
  exact ⟨rfl, rfl⟩

set_option maxHeartbeats 1000000 in
theorem key_any (n : Int) (w : World) : ∃ x : Nat, 1 ≤ x ∧ x < 2305843009213688669 ∧ Calls Tryd.prog 49 #[.int .i64 n] w fun e w' => e = .returned (.int .i64 x) ∧ w' = w := by
  obtain ⟨y, hy, hc⟩ := of_any n w
  obtain ⟨z, hz⟩ : ∃ z, z = y % 2305843009213688668 := ⟨_, rfl⟩
  have e2 : (y : Int).tmod 2305843009213688668 = (z : Int) := by rw [Int.tmod_eq_emod_of_nonneg (by omega)]; omega
  have e3 : (y : Int) % 2305843009213688668 = (z : Int) := by omega
  refine ⟨1 + z, by omega, by omega, ?_⟩
  have b1 : (z : Int) < 2305843009213688668 := by omega
  have HC := Lib.hid hc
  clear hy hz hc
  go_enter Tryd.func49, Tryd.ntmps49
  go_wp2_with fail
  refine HC.out.mono ?_
  rintro e w1 ⟨rfl, rfl⟩
  go_wp2_with fail
  go_ret
  exact ⟨by push_cast; rfl, rfl⟩

set_option maxHeartbeats 1000000 in
theorem valid_ok (x : Nat) (h1 : 1 ≤ x) (h2 : x < 2305843009213688669) (w : World) : Calls Tryd.prog 81 #[.int .i64 x] w fun e w' => e = .returned (.bool true) ∧ w' = w := by
  have t1 : decide ((1 : Int) ≤ (x : Int)) = true := by rw [decide_eq_true_eq]; omega
  have t2 : decide ((x : Int) < 2305843009213688669) = true := by rw [decide_eq_true_eq]; omega
  clear h1 h2
  go_enter Tryd.func81, Tryd.ntmps81
  go_wp2_with fail
  go_ret
  exact ⟨rfl, rfl⟩

set_option maxHeartbeats 1000000 in
theorem keyPublic_ok (x : Nat) (h2 : x < 2305843009213688669) (w : World) : Calls Tryd.prog 82 #[.int .i64 x] w fun e w' => e = .returned (.int .i64 (Gp.pw 4611686018427377339 4 x : Nat)) ∧ Below w.heap.size w w' := by
  have HC := Lib.hid (fun w => baseE h2 rfl w)
  generalize Gp.pw 4611686018427377339 4 x = P at *
  clear h2
  go_enter Tryd.func82, Tryd.ntmps82
  go_wp2_with fail
  refine (HC.out _).mono ?_
  rintro e w1 ⟨rfl, hb⟩
  go_wp2_with fail
  go_ret
  exact ⟨rfl, hb⟩

set_option maxHeartbeats 1000000 in
theorem pub_ok (x : Nat) (h1 : 1 ≤ x) (h2 : x < 2305843009213688669) (w : World) : Calls Tryd.prog 50 #[.int .i64 x] w fun e w' => e = .returned (.tuple #[.int .i64 (Gp.pw 4611686018427377339 4 x : Nat), .int .i64 0]) ∧ Below w.heap.size w w' := by
  have H1 := Lib.hid (fun w => valid_ok x h1 h2 w)
  have H2 := Lib.hid (fun w => keyPublic_ok x h2 w)
  generalize Gp.pw 4611686018427377339 4 x = P at *
  clear h1 h2
  go_enter Tryd.func50, Tryd.ntmps50
  go_wp2_with fail
  refine (H1.out _).mono ?_
  rintro e w1 ⟨rfl, rfl⟩
  go_wp2_with fail
  refine (H2.out _).mono ?_
  rintro e w2 ⟨rfl, hb⟩
  go_wp2_with fail
  go_ret2
  exact ⟨rfl, hb⟩

/-- a signature as a value. -/
def sgV (R S : Nat) : Value := .agg #[.int .i64 R, .int .i64 S]
/-- what Sign returns. -/
def sgK (x n : Nat) (f : Nat → Nat) : Nat := noOf (x : Int) n f
def sgR (x n : Nat) (f : Nat → Nat) : Nat := Gp.pw 4611686018427377339 4 (sgK x n f)
def sgC (x n : Nat) (f : Nat → Nat) : Nat := chOf (sgR x n f : Int) (Gp.pw 4611686018427377339 4 x : Nat) n f
def sgS (x n : Nat) (f : Nat → Nat) : Nat := (sgK x n f + Gp.mu 2305843009213688669 (sgC x n f) x) % 2305843009213688669
theorem sgK_lt (x n : Nat) (f : Nat → Nat) : sgK x n f < 2305843009213688669 := scOf_lt _ _ _
theorem sgC_lt (x n : Nat) (f : Nat → Nat) : sgC x n f < 2305843009213688669 := scOf_lt _ _ _

theorem nonce_hash (x : Int) (p : Option Addr) (n c : Nat) (f : Nat → Nat) (w : World) (hT : Tabs w) (hb : Bytes w p n c f) (hn : n ≤ 1000) :
    Calls Tryd.prog 84 #[.string nonceT, .slice p n c, .slice (some ⟨w.heap.size, 0, none⟩) 1 1] (w.alloc (.cells #[.int .i64 x] 3)) fun e w' => e = .returned (.int .i64 (noOf x n f : Nat)) ∧ Below w.heap.size w w' := by
  have hB : Below w.heap.size w (w.alloc (.cells #[.int .i64 x] 3)) := (Below.refl _ _).alloc (Nat.le_refl _) _
  refine (hash_any nonceT p n c f w.heap.size 1 (fun _ => x) _ (hT.below hB) (hb.below hB (Nat.le_refl _)) (by rw [alloc_size]; exact Nat.lt_succ_self _) (by decide) (fun i hi => by obtain rfl : i = 0 := (by omega); exact one_cell w x) hn (by decide)).mono ?_
  rintro e w' ⟨rfl, hb⟩
  exact ⟨rfl, hB.trans (hb.mono (by rw [alloc_size]; omega))⟩
theorem sign_hash' (r pub : Int) (p : Option Addr) (n c : Nat) (f : Nat → Nat) (w : World) (hT : Tabs (w.alloc (.cells #[.int .i64 r, .int .i64 pub] 3))) (hb : Bytes (w.alloc (.cells #[.int .i64 r, .int .i64 pub] 3)) p n c f) (hn : n ≤ 1000) :
    Calls Tryd.prog 84 #[.string signT, .slice p n c, .slice (some ⟨w.heap.size, 0, none⟩) 2 2] (w.alloc (.cells #[.int .i64 r, .int .i64 pub] 3)) fun e w' => e = .returned (.int .i64 (chOf r pub n f : Nat)) ∧ Below (w.alloc (.cells #[.int .i64 r, .int .i64 pub] 3)).heap.size (w.alloc (.cells #[.int .i64 r, .int .i64 pub] 3)) w' :=
  hash_any signT p n c f w.heap.size 2 (two r pub) _ hT hb (by rw [alloc_size]; exact Nat.lt_succ_self _) (by decide) (two_cell w r pub) hn (by decide)
theorem sign_hash (r pub : Int) (p : Option Addr) (n c : Nat) (f : Nat → Nat) (w : World) (hT : Tabs w) (hb : Bytes w p n c f) (hn : n ≤ 1000) :
    Calls Tryd.prog 84 #[.string signT, .slice p n c, .slice (some ⟨w.heap.size, 0, none⟩) 2 2] (w.alloc (.cells #[.int .i64 r, .int .i64 pub] 3)) fun e w' => e = .returned (.int .i64 (chOf r pub n f : Nat)) ∧ Below w.heap.size w w' := by
  have hB : Below w.heap.size w (w.alloc (.cells #[.int .i64 r, .int .i64 pub] 3)) := (Below.refl _ _).alloc (Nat.le_refl _) _
  refine (hash_any signT p n c f w.heap.size 2 (two r pub) _ (hT.below hB) (hb.below hB (Nat.le_refl _)) (by rw [alloc_size]; exact Nat.lt_succ_self _) (by decide) (two_cell w r pub) hn (by decide)).mono ?_
  rintro e w' ⟨rfl, hb⟩
  exact ⟨rfl, hB.trans (hb.mono (by rw [alloc_size]; omega))⟩

/-- what stands while Sign calculates: its result's cells in block D. -/
structure SG (D : Nat) (w : World) (R : Nat) (W : World) : Prop where
  below : Below D w W
  lt : D < W.heap.size
  row : Row W D 0 2 .i64 (fun j => if j = 0 then (R : Int) else 0)
theorem SG.keep {D b : Nat} {w W W' : World} {R : Nat} (h : SG D w R W) (hb : Below b W W') (hD : W.heap.size ≤ b) : W'.cell? ⟨D, 0, none⟩ = some (.int .i64 R) ∧ SG D w R W' := by
  have h1 : SG D w R W' := ⟨h.1.trans (hb.mono (by have := h.2; omega)), Nat.lt_of_lt_of_le h.2 hb.size, h.3.below hb (by have := h.2; omega)⟩
  exact ⟨h1.3.cell 0 (by decide), h1⟩

theorem results_cellTmp {P : Program} {fn : Func} {tmps : Array Value} {a b t : Nat} {p : Addr} {v u : Value} {w : World} (h : fn.results = #[.cell a t, .tmp b]) (hp : tmps.getD a undef = .pointer (some p)) (hu : tmps.getD b undef = u) (hl : (loadVar t p).run P w = .ok v w) : (results fn tmps).run P w = .ok (.tuple #[v, u]) w := by
  rw [Array.getD_eq_getD_getElem?] at hp hu
  simp [results, h, hp, hu, asAddr, hl]
theorem SG.keeps {D b : Nat} {w W W' : World} {R : Nat} (h : W.cell? ⟨D, 0, none⟩ = some (.int .i64 R) ∧ SG D w R W) (hb : Below b W W') (hD : W.heap.size ≤ b) : W'.cell? ⟨D, 0, none⟩ = some (.int .i64 R) ∧ SG D w R W' := h.2.keep hb hD

set_option maxHeartbeats 4000000 in
set_option maxRecDepth 100000 in
theorem sign_ok (x : Nat) (h1 : 1 ≤ x) (h2 : x < 2305843009213688669) (p : Option Addr) (n c : Nat) (f : Nat → Nat) (w : World) (hT : Tabs w) (hb : Bytes w p n c f) (hn : n ≤ 1000) :
    Calls Tryd.prog 52 #[.int .i64 x, .slice p n c] w fun e w' => e = .returned (.tuple #[sgV (sgR x n f) (sgS x n f), .int .i64 0]) ∧ Below w.heap.size w w' := by
  have H1 := Lib.hid (fun w => valid_ok x h1 h2 w)
  have H2 := Lib.hid (fun w => keyPublic_ok x h2 w)
  have H3 := Lib.hid (fun (W : World) (hB : Below w.heap.size w W) => nonce_hash (x : Int) p n c f W (hT.below hB) (hb.below hB (Nat.le_refl _)) hn)
  obtain ⟨K, hK⟩ : ∃ K, K = sgK x n f := ⟨_, rfl⟩
  have hKl : K < 2305843009213688669 := by rw [hK]; exact sgK_lt x n f
  obtain ⟨R, hR⟩ : ∃ R, R = sgR x n f := ⟨_, rfl⟩
  have H4 := Lib.hid (fun w => baseE hKl (r := R) (by rw [hK, hR]; rfl) w)
  obtain ⟨P, hP⟩ : ∃ P, P = Gp.pw 4611686018427377339 4 x := ⟨_, rfl⟩
  have H5 := Lib.hid (fun (W : World) (hB : Below w.heap.size w (W.alloc (.cells #[.int .i64 (R : Int), .int .i64 (P : Int)] 3))) => sign_hash' (R : Int) (P : Int) p n c f W (hT.below hB) (hb.below hB (Nat.le_refl _)) hn)
  obtain ⟨C, hC⟩ : ∃ C, C = sgC x n f := ⟨_, rfl⟩
  have hCl : C < 2305843009213688669 := by rw [hC]; exact sgC_lt x n f
  have H6 := Lib.hid (fun w => fmul_ok C x hCl h2 w)
  obtain ⟨M, hM⟩ : ∃ M, M = Gp.mu 2305843009213688669 C x := ⟨_, rfl⟩
  have hMl : M < 2305843009213688669 := by rw [hM]; exact Gp.mu_lt (by decide)
  have H7 := Lib.hid (fun w => fadd_ok K M hKl hMl w)
  obtain ⟨S, hS⟩ : ∃ S, S = (K + M) % 2305843009213688669 := ⟨_, rfl⟩
  have hc2 : chOf (R : Int) (P : Int) n f = C := by rw [hR, hP, hC]; rfl
  have hc1 : noOf (x : Int) n f = K := by rw [hK]; rfl
  rw [← hM] at H6
  rw [← hS] at H7
  rw [← hP] at H2
  rw [hc1] at H3
  rw [hc2] at H5
  have HS : Hid (S = sgS x n f ∧ R = sgR x n f) := Lib.hid ⟨by rw [hS, hM, hK, hC]; rfl, hR⟩
  clear hT hb hn h1 h2 hK hKl hR hP hC hCl hM hMl hS hc1 hc2
  go_enter Tryd.func52, Tryd.ntmps52
  go_wp2_with fail
  have hB0 : Below w.heap.size w (w.alloc (.cells #[.int .i64 0, .int .i64 0] 61)) := (Below.refl _ _).alloc (Nat.le_refl _) _
  have hr0 : Row (w.alloc (.cells #[.int .i64 0, .int .i64 0] 61)) w.heap.size 0 2 .i64 (fun _ => 0) := row_new w _ _ 2 .i64 _ fun i hi => by
    match i, hi with
    | 0, _ => rfl
    | 1, _ => rfl
  have hs0 := alloc_size w (.cells #[.int .i64 0, .int .i64 0] 61)
  generalize w.alloc (.cells #[.int .i64 0, .int .i64 0] 61) = w0 at *
  generalize hD : w.heap.size = D at *
  have HB0 := Lib.hid hB0
  have HR0 := Lib.hid hr0
  have HS0 := Lib.hid hs0
  clear hB0 hr0 hs0
  refine (H1.out _).mono ?_
  rintro e w1 ⟨rfl, rfl⟩
  go_wp2_with fail
  refine (H3.out _ HB0.out).mono ?_
  rintro e w1 ⟨rfl, hb1⟩
  have HB1 := Lib.hid (HB0.out.trans (hb1.mono (by have := HS0.out; omega)))
  have HR1 := Lib.hid (HR0.out.below hb1 (by have := HS0.out; omega))
  have HS1 : Hid (D < w1.heap.size) := Lib.hid (by have := HS0.out; have := hb1.size; omega)
  clear hb1 HB0 HR0 HS0
  go_wp2_with fail
  refine (H4.out _).mono ?_
  rintro e w2 ⟨rfl, hb1⟩
  have HB2 := Lib.hid (HB1.out.trans (hb1.mono (by have := HS1.out; omega)))
  have HR2 := Lib.hid (HR1.out.below hb1 HS1.out)
  have HS2 : Hid (D < w2.heap.size) := Lib.hid (by have := HS1.out; have := hb1.size; omega)
  clear hb1 HB1 HR1 HS1
  have c0 := HR2.out.cell 0 (by decide)
  have z0 := HR2.out.free 0 (by decide)
  rw [Nat.zero_add] at c0 z0
  go_wp2_with fail
  have hr3 := HR2.out.set (i := 0) (by decide) (R : Int)
  rw [Nat.zero_add] at hr3
  have hG : SG D w R (w2.setCell ⟨D, 0, none⟩ (.int .i64 R)) := ⟨HB2.out.setCell (p := ⟨D, 0, none⟩) (Nat.le_refl _) _, by simp [World.setCell]; exact HS2.out, hr3⟩
  have hc0 : (w2.setCell ⟨D, 0, none⟩ (.int .i64 R)).cell? ⟨D, 0, none⟩ = some (.int .i64 R) := hG.3.cell 0 (by decide)
  clear HB2 HS2 HR2 c0 z0 hr3
  generalize w2.setCell ⟨D, 0, none⟩ (.int .i64 R) = w3 at *
  have H5' := Lib.hid (fun (W : World) (hs : (W.alloc (.cells #[.int .i64 (R : Int), .int .i64 (P : Int)] 3)).cell? ⟨D, 0, none⟩ = some (.int .i64 R) ∧ SG D w R (W.alloc (.cells #[.int .i64 (R : Int), .int .i64 (P : Int)] 3))) => H5.out W hs.2.1)
  clear H5
  go_wp2_with fail
  go_region_held3 (fun w' => w'.cell? ⟨D, 0, none⟩ = some (.int .i64 R) ∧ SG D w R w')
    (first
      | (refine SG.keep ?_ (Below.refl _ _).drew (Nat.le_refl _); assumption)
      | (refine SG.keeps ?_ hb1 (Nat.le_refl _); assumption)
      | (refine SG.keeps ?_ ((Below.refl _ _).alloc (Nat.le_refl _) _) (Nat.le_refl _); assumption))
    (first
      | (go_at_call 82; refine (H2.out _).mono ?_; rintro e w' ⟨rfl, hb1⟩)
      | (go_at_call 84; refine (H5'.out _ (by assumption)).mono ?_; rintro e w' ⟨rfl, hb1⟩)
      | (go_at_call 59; refine (H6.out _).mono ?_; rintro e w' ⟨rfl, hb1⟩))
  rename_i hH
  have hS3 := Lib.hid hH.2
  clear hH H1 H2 H3 H4 H5' H6
  generalize w' = w4 at *
  go_wp2_with fail
  refine (H7.out _).mono ?_
  rintro e w5 ⟨rfl, hb1⟩
  have HB5 := Lib.hid (hS3.out.1.trans (hb1.mono (by have := hS3.out.2; omega)))
  have HR5 := Lib.hid (hS3.out.3.below hb1 hS3.out.2)
  clear hb1 H7 hS3
  have c0 : w5.cell? ⟨D, 0, none⟩ = some (.int .i64 R) := HR5.out.cell 0 (by decide)
  have c1 : w5.cell? ⟨D, 1, none⟩ = some (.int .i64 0) := HR5.out.cell 1 (by decide)
  have z0 : w5.frozen? ⟨D, 0, none⟩ = false := HR5.out.free 0 (by decide)
  have z1 : w5.frozen? ⟨D, 1, none⟩ = false := HR5.out.free 1 (by decide)
  go_wp2_with fail
  have hrow := (((HR5.out.set (i := 1) (by decide) (S : Int)).set (i := 0) (by decide) (R : Int)).set (i := 1) (by decide) (S : Int))
  simp only [Nat.zero_add] at hrow
  have hrg : World.rangeAt (((w5.setCell ⟨D, 1, none⟩ (.int .i64 S)).setCell ⟨D, 0, none⟩ (.int .i64 R)).setCell ⟨D, 1, none⟩ (.int .i64 S)) D 0 [.int .i64 R, .int .i64 S] := fun j v hv => by
    match j, hv with
    | 0, hv => cases hv; exact hrow.cell 0 (by decide)
    | 1, hv => cases hv; exact hrow.cell 1 (by decide)
  refine bodyPost_ret (v := .tuple #[sgV R S, .int .i64 0]) (results_cellTmp rfl rfl rfl (run_loadVar_mid _ D 0 61 [.int .i64 R, .int .i64 S] _ hrg Tryd.underlying61 rfl (by kernel_rfl))) rfl ⟨?_, ?_⟩
  · rw [HS.out.1, HS.out.2]
  · rw [hD]
    exact ((HB5.out.setCell (p := ⟨D, 1, none⟩) (Nat.le_refl _) _).setCell (p := ⟨D, 0, none⟩) (Nat.le_refl _) _).setCell (p := ⟨D, 1, none⟩) (Nat.le_refl _) _
end Go.Proofs.YtelikpkekloffaaDoor
