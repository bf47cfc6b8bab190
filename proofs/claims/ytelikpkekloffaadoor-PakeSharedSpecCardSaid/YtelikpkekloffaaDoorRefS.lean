/- The reference's hash function: padded, Sum, Tagged, walked. -/
import Derived.Test.YtelikpkekloffaaDoorBytesD
import Derived.Test.YtelikpkekloffaaDoorRefB
import Derived.Deep.RegionHeld3
import Derived.Deep.RegionWith
namespace Go.Proofs.YtelikpkekloffaaDoor
open Go.RowKit

theorem owns_empty (w : World) : (w.alloc (.cells #[] 5)).ownsRow w.heap.size 5 1 (.slice (some ⟨w.heap.size, 0, none⟩) 0 0) 0 [] := by
  refine ⟨rfl, .inr ⟨w.heap.size, 0, #[], rfl, Nat.le_refl _, ?_, Nat.le_refl _, Nat.zero_le _, rfl, rfl⟩⟩
  show (w.heap.push _)[w.heap.size]? = _
  rw [Array.getElem?_push, if_pos rfl]
theorem pad_lo {n i : Nat} {f : Nat → Nat} (h : i < n) : Sha.pad n f i = f i := by unfold Sha.pad; rw [if_pos h]
theorem pad_at (n : Nat) (f : Nat → Nat) : Sha.pad n f n = 128 := by unfold Sha.pad; rw [if_neg (Nat.lt_irrefl _), if_pos rfl]
theorem pad_mid {n i : Nat} {f : Nat → Nat} (h : n < i) (h2 : i + 8 < 64 * Sha.nb n) : Sha.pad n f i = 0 := by unfold Sha.pad; rw [if_neg (by omega), if_neg (by omega), if_pos h2]
theorem pad_hi {n j : Nat} {f : Nat → Nat} (h : j < 8) (hk : 8 ≤ 64 * Sha.nb n) (hn : n + 8 < 64 * Sha.nb n) : Sha.pad n f (64 * Sha.nb n - 8 + j) = 8 * n % 18446744073709551616 / 2 ^ (8 * (7 - j)) % 256 := by
  unfold Sha.pad
  rw [if_neg (by omega), if_neg (by omega), if_neg (by omega), show 64 * Sha.nb n - 1 - (64 * Sha.nb n - 8 + j) = 7 - j by omega]

set_option maxRecDepth 100000 in
set_option maxHeartbeats 4000000 in
theorem padded_any (p : Option Addr) (n c : Nat) (f : Nat → Nat) (w : World) (hb : Bytes w p n c f) (hn : n ≤ 4096) :
    Calls Tryd.prog 113 #[.slice p n c] w fun e w' => ∃ r, e = .returned r ∧ w'.ownsRow w.heap.size 5 1 r (64 * Sha.nb n) (bl (64 * Sha.nb n) (Sha.pad n f)) ∧ Below w.heap.size w w' := by
  have HB := Lib.hid hb
  have HN := Lib.hid hn
  have b1 : (n : Int) ≤ 4096 := by omega
  clear hb hn
  go_enter Tryd.func113, Tryd.ntmps113
  have HBm := Lib.hid (HB.out.below ((Below.refl w.heap.size w).alloc (Nat.le_refl _) (.cells #[] 5)) (Nat.le_refl _))
  have HO := Lib.hid (owns_empty w)
  go_wp2_with first
    | (at_builtin; refine wpList_append_b _ rfl (.tmp 6) (.tmp 7) rfl w.heap.size _ 0 _ rfl HO.out p n c f rfl HBm.out (by have := HN.out; omega) (by rw [alloc_size]; omega) ?_; intro v1 w1 ho1)
    | (at_builtin; refine wpList_append_b _ rfl (.tmp 8) (.tmp 9) rfl w.heap.size _ (0 + n) _ rfl (ho1.out.1.alloc _) _ 1 1 (fun _ => 128) rfl (byte_new _ 128 (by decide)) (by have := HN.out; omega) (by have := ho1.out.2.size; rw [alloc_size]; rw [alloc_size] at this; omega) ?_; intro v2 w2 ho2)
  have hP : ∀ i, i < n → Sha.pad n f i = f i := fun i hi => pad_lo hi
  have hnb : n + 9 ≤ 64 * Sha.nb n ∧ 64 * Sha.nb n ≤ n + 72 := by unfold Sha.nb; omega
  have hPL : ∀ i, Sha.pad n f i < 256 := fun i => Sha.pad_lt HB.out.byte i
  have hw2 : Hid (w2.ownsRow w.heap.size 5 1 v2 (n + 1) (bl (n + 1) (Sha.pad n f)) ∧ Below w.heap.size w w2) := by
    have h1 := ho2.out.1
    rw [List.nil_append, Nat.zero_add] at h1
    have e : bl n f ++ bl 1 (fun _ => 128) = bl (n + 1) (Sha.pad n f) := by
      rw [← bl_succ n (Sha.pad n f), bl_congr hP, pad_at]
    rw [e] at h1
    refine Lib.hid ⟨h1, ?_⟩
    have h2 := ((Below.refl w.heap.size w).alloc (Nat.le_refl _) (.cells #[] 5)).trans ho1.out.2
    exact (h2.alloc h2.size _).trans ho2.out.2
  have HNB := Lib.hid hnb
  have HPL := Lib.hid hPL
  clear ho1 ho2 HO HBm hP hnb hPL
  go_loopg [3] (64 * Sha.nb n - 8 - (n + 1)) (fun g x wr => ∃ (r : Value) (k : Nat), x = r ∧ Hid (k + g = 64 * Sha.nb n - 8) ∧ Hid (n < k) ∧ Hid (wr.ownsRow w.heap.size 5 1 r k (bl k (Sha.pad n f)) ∧ Below w.heap.size w wr))
  case atStart => exact ⟨_, n + 1, rfl, Lib.hid (by have := HNB.out; omega), Lib.hid (Nat.lt_succ_self _), hw2⟩
  case round =>
    clear hw2
    obtain ⟨r, k, rfl, hk, hnk, ho⟩ := hrel
    obtain ⟨p5, c5, rfl, hb5, hc5⟩ := Bytes.own ho.out.1 (fun i hi => bl_get _ _ i hi) (fun i _ => HPL.out i)
    have hkb : (k : Int) ≤ 8192 := by have := hk.out; have := HNB.out; have := HN.out; omega
    obtain ⟨y, hy⟩ : ∃ y, y = k % 64 := ⟨_, rfl⟩
    have e2 : (k : Int).tmod 64 = (y : Int) := by rw [Int.tmod_eq_emod_of_nonneg (by omega)]; omega
    have e3 : (k : Int) % 64 = (y : Int) := by omega
    have HY := Lib.hid hy
    have HB5 := Lib.hid hb5
    have HC5 := Lib.hid hc5
    by_cases h : y = 56
    · have hfin : k = 64 * Sha.nb n - 8 := by
        have h1 := hk.out; have h2 := hnk.out; have h3 := HNB.out
        unfold Sha.nb at h1 h3 ⊢
        omega
      have t1 : ((y : Int) == 56) = true := by rw [beq_iff_eq]; omega
      have t1' : decide ((y : Int) = 56) = true := by rw [decide_eq_true_eq]; omega
      clear hy hb5 hc5
      subst hfin
      have hh := ho
      have hn8 : Hid (n + 8 < 64 * Sha.nb n ∧ 64 * Sha.nb n ≤ 8192) := Lib.hid (by have := HNB.out; have := HN.out; omega)
      go_wp2_with fail
      generalize hN8 : 64 * Sha.nb n - 8 = N at *
      have HN8 := Lib.hid hN8
      clear hN8 HB5 HC5 ho HNB hk hnk
      go_loopg [3, 5] 8 (fun g x y wr => ∃ (r : Value) (j : Nat), x = r ∧ y = .int .i64 ((7 : Int) - (j : Int)) ∧ Hid (j + g = 8) ∧ Hid (wr.ownsRow w.heap.size 5 1 r (N + j) (bl (N + j) (Sha.pad n f)) ∧ Below w.heap.size w wr))
      case atStart => exact ⟨_, 0, rfl, by go_num, Lib.hid rfl, hh⟩
      case round =>
        clear hh
        obtain ⟨r, j, rfl, rfl, hj, ho⟩ := hrel
        by_cases h8 : j < 8
        · obtain ⟨q, hq⟩ : ∃ q, q = 7 - j := ⟨_, rfl⟩
          have e7 : (7 : Int) - (j : Int) = (q : Int) := by omega
          have b7 : (q : Int) ≤ 7 := by omega
          have t2 : decide ((0 : Int) ≤ (q : Int)) = true := by rw [decide_eq_true_eq]; omega
          obtain ⟨z, hz⟩ : ∃ z, z = n * 8 / 2 ^ (8 * q) % 256 := ⟨_, rfl⟩
          obtain ⟨y2, hy2⟩ : ∃ y, y = n * 8 / 2 ^ (8 * q) := ⟨_, rfl⟩
          have e8 : ((n : Int) * 8) / 2 ^ (8 * q) = (y2 : Int) := by rw [hy2]; push_cast; rfl
          have e9 : IntKind.u8.wrap (y2 : Int) = (z : Int) := by
            rw [hz, ← hy2]
            simp only [IntKind.wrap, IntKind.bits, IntKind.signed]; simp
          have hzl : z < 256 := by rw [hz]; exact Nat.mod_lt _ (by decide)
          have hpad : Sha.pad n f (N + j) = z := by
            have h1 := pad_hi (n := n) (f := f) h8 (by have := hn8.out; omega) hn8.out.1
            rw [HN8.out] at h1
            have e88 : 8 * n % 18446744073709551616 = n * 8 := by have := HN.out; omega
            rw [h1, e88, hz, hq]
          have HPAD := Lib.hid hpad
          have HZL := Lib.hid hzl
          have H8 := Lib.hid h8
          have e6 : (q : Int) - 1 = 7 - ((j + 1 : Nat) : Int) := by omega
          have E6 := Lib.hid e6
          clear hq hz hy2 hzl hpad h8 e6
          go_wp2_with (at_builtin; refine wpList_append_b _ rfl (.tmp 26) (.tmp 32) rfl w.heap.size _ (N + j) _ rfl (ho.out.1.alloc _) _ 1 1 (fun _ => z) rfl (byte_new _ z HZL.out) (by have := hn8.out; have := HN8.out; have := H8.out; omega) (by have := ho.out.2.size; rw [alloc_size]; omega) ?_; intro v3 w3 ho3)
          have e5 : bl (N + j) (Sha.pad n f) ++ bl 1 (fun _ => z) = bl (N + j + 1) (Sha.pad n f) := by
            rw [← bl_succ (N + j) (Sha.pad n f), HPAD.out]
          rw [e5] at ho3
          go_roundg (8 - (j + 1))
          case rel => exact ⟨_, j + 1, rfl, by rw [E6.out], Lib.hid (by have := H8.out; omega), Lib.hid ⟨ho3.out.1, (ho.out.2.alloc ho.out.2.size _).trans ho3.out.2⟩⟩
          case measure => have := hj.out; have := H8.out; omega
        · obtain rfl : j = 8 := by have := hj.out; omega
          have t2 : decide ((0 : Int) ≤ 7 - ((8 : Nat) : Int)) = false := by decide
          clear h8
          go_wp2_with fail
          go_ret
          refine ⟨_, rfl, ?_⟩
          have e : N + 8 = 64 * Sha.nb n := by have := HN8.out; have := hn8.out; omega
          rw [e] at ho
          exact ho.out
    · have t1 : ((y : Int) == 56) = false := by rw [beq_eq_false_iff_ne]; omega
      have t1' : decide ((y : Int) = 56) = false := by rw [decide_eq_false_iff_not]; omega
      have hlt : k + 8 < 64 * Sha.nb n := by
        have h1 := hk.out; have h2 := hnk.out; have h3 := HNB.out
        have : k ≠ 64 * Sha.nb n - 8 := by intro e; apply h; omega
        omega
      have HLT := Lib.hid hlt
      clear hy hb5 hc5 hlt h
      go_wp2_with (at_builtin; refine wpList_append_b _ rfl (.tmp 15) (.tmp 16) rfl w.heap.size _ k _ rfl (ho.out.1.alloc _) _ 1 1 (fun _ => 0) rfl (byte_new _ 0 (by decide)) (by have := HLT.out; have := HNB.out; have := HN.out; omega) (by have := ho.out.2.size; rw [alloc_size]; omega) ?_; intro v3 w3 ho3)
      have e5 : bl k (Sha.pad n f) ++ bl 1 (fun _ => 0) = bl (k + 1) (Sha.pad n f) := by
        rw [← bl_succ k (Sha.pad n f), pad_mid hnk.out HLT.out]
      rw [e5] at ho3
      go_roundg (64 * Sha.nb n - 8 - (k + 1))
      case rel => exact ⟨_, k + 1, rfl, Lib.hid (by have := HLT.out; omega), Lib.hid (by have := hnk.out; omega), Lib.hid ⟨ho3.out.1, (ho.out.2.alloc ho.out.2.size _).trans ho3.out.2⟩⟩
      case measure => have := hk.out; have := HLT.out; omega

theorem row8_facts {w : World} {B : Nat} {S : Sha.S8} (h : Row w B 0 8 .u32 (fun i => (S.get i : Int))) :
    (w.cell? ⟨B, 0, none⟩ = some (.int .u32 S.a) ∧ w.cell? ⟨B, 1, none⟩ = some (.int .u32 S.b) ∧ w.cell? ⟨B, 2, none⟩ = some (.int .u32 S.c) ∧ w.cell? ⟨B, 3, none⟩ = some (.int .u32 S.d) ∧ w.cell? ⟨B, 4, none⟩ = some (.int .u32 S.e) ∧ w.cell? ⟨B, 5, none⟩ = some (.int .u32 S.f) ∧ w.cell? ⟨B, 6, none⟩ = some (.int .u32 S.g) ∧ w.cell? ⟨B, 7, none⟩ = some (.int .u32 S.h)) ∧
      (w.frozen? ⟨B, 0, none⟩ = false ∧ w.frozen? ⟨B, 1, none⟩ = false ∧ w.frozen? ⟨B, 2, none⟩ = false ∧ w.frozen? ⟨B, 3, none⟩ = false ∧ w.frozen? ⟨B, 4, none⟩ = false ∧ w.frozen? ⟨B, 5, none⟩ = false ∧ w.frozen? ⟨B, 6, none⟩ = false ∧ w.frozen? ⟨B, 7, none⟩ = false) :=
  ⟨⟨h.cell 0 (by decide), h.cell 1 (by decide), h.cell 2 (by decide), h.cell 3 (by decide), h.cell 4 (by decide), h.cell 5 (by decide), h.cell 6 (by decide), h.cell 7 (by decide)⟩,
    ⟨h.free 0 (by decide), h.free 1 (by decide), h.free 2 (by decide), h.free 3 (by decide), h.free 4 (by decide), h.free 5 (by decide), h.free 6 (by decide), h.free 7 (by decide)⟩⟩

theorem row_zeros32 (w : World) (T : TypeId) : Row (w.alloc (.cells (List.replicate 32 (Value.int .u8 0)).toArray T)) w.heap.size 0 32 .u8 (fun _ => 0) :=
  row_new w _ T 32 .u8 _ fun i hi => by rw [List.getElem?_toArray, List.getElem?_replicate, if_pos hi]
theorem there_zeros32 (w : World) (T : TypeId) : (w.alloc (.cells (List.replicate 32 (Value.int .u8 0)).toArray T)).there w.heap.size 0 (List.replicate 32 (Value.int .u8 0)).toArray.size := fun j hj => by
  have hj : j < 32 := by simpa using hj
  have h := row_zeros32 w T
  exact ⟨by rw [h.cell j hj]; rfl, h.free j hj⟩
theorem row_store32 (w : World) (B : Nat) (l : List Value) (g : Nat → Int) {f : Nat → Int} (h : Row w B 0 32 .u8 f) (hl : ∀ i, i < 32 → l[i]? = some (.int .u8 (g i))) (hn : l.length = 32) : Row (w.setCells B 0 l) B 0 32 .u8 g := by
  have ht : w.there B 0 l.length := fun j hj => by
    rw [hn] at hj
    exact ⟨by rw [h.cell j hj]; rfl, h.free j hj⟩
  have h1 := World.rangeAt_setCells_same w B 0 l ht
  refine ⟨fun i hi => h1 i _ (hl i hi), fun i hi => ?_⟩
  rw [World.frozen?_setCells]; exact h.free i hi
def set8 (w : World) (B : Nat) (T : Sha.S8) : World :=
  (((((((w.setCell ⟨B, 0, none⟩ (.int .u32 T.a)).setCell ⟨B, 1, none⟩ (.int .u32 T.b)).setCell ⟨B, 2, none⟩ (.int .u32 T.c)).setCell ⟨B, 3, none⟩ (.int .u32 T.d)).setCell ⟨B, 4, none⟩ (.int .u32 T.e)).setCell ⟨B, 5, none⟩ (.int .u32 T.f)).setCell ⟨B, 6, none⟩ (.int .u32 T.g)).setCell ⟨B, 7, none⟩ (.int .u32 T.h)
theorem row8_set {w : World} {B : Nat} {f : Nat → Int} (T : Sha.S8) (h : Row w B 0 8 .u32 f) : Row (set8 w B T) B 0 8 .u32 (fun i => (T.get i : Int)) := by
  have h1 := (((((((h.set (i := 0) (by decide) (T.a : Int)).set (i := 1) (by decide) (T.b : Int)).set (i := 2) (by decide) (T.c : Int)).set (i := 3) (by decide) (T.d : Int)).set (i := 4) (by decide) (T.e : Int)).set (i := 5) (by decide) (T.f : Int)).set (i := 6) (by decide) (T.g : Int)).set (i := 7) (by decide) (T.h : Int)
  simp only [Nat.zero_add] at h1
  refine Row.congr h1 fun i hi => ?_
  match i, hi with
  | 0, _ => rfl
  | 1, _ => rfl
  | 2, _ => rfl
  | 3, _ => rfl
  | 4, _ => rfl
  | 5, _ => rfl
  | 6, _ => rfl
  | 7, _ => rfl
theorem reads8_set {w : World} {B off n A : Nat} {k : IntKind} {f : Nat → Int} (T : Sha.S8) (h : Reads w B off n k f) (hA : A ≠ B) : Reads (set8 w A T) B off n k f :=
  (((((((h.other (a := ⟨A, 0, none⟩) hA _).other (a := ⟨A, 1, none⟩) hA _).other (a := ⟨A, 2, none⟩) hA _).other (a := ⟨A, 3, none⟩) hA _).other (a := ⟨A, 4, none⟩) hA _).other (a := ⟨A, 5, none⟩) hA _).other (a := ⟨A, 6, none⟩) hA _).other (a := ⟨A, 7, none⟩) hA _
theorem below8_set {a w : World} {D A : Nat} (T : Sha.S8) (h : Below D a w) (hA : D ≤ A) : Below D a (set8 w A T) :=
  (((((((h.setCell (p := ⟨A, 0, none⟩) hA _).setCell (p := ⟨A, 1, none⟩) hA _).setCell (p := ⟨A, 2, none⟩) hA _).setCell (p := ⟨A, 3, none⟩) hA _).setCell (p := ⟨A, 4, none⟩) hA _).setCell (p := ⟨A, 5, none⟩) hA _).setCell (p := ⟨A, 6, none⟩) hA _).setCell (p := ⟨A, 7, none⟩) hA _
/-- what a round of Sum keeps. -/
structure SumR (w : World) (Bd B off L n : Nat) (f : Nat → Nat) (T : Sha.S8) (W : World) : Prop where
  s : Row W (Bd + 1) 0 8 .u32 (fun i => (T.get i : Int))
  r : Reads W B off L .u8 (fun i => (Sha.pad n f i : Int))
  d : Row W Bd 0 32 .u8 (fun _ => 0)
  b : Below Bd w W
  z : B < W.heap.size
theorem SumR.step {w wr w' : World} {Bd B off L n : Nat} {f : Nat → Nat} {S : Sha.S8} (T : Sha.S8) (h : SumR w Bd B off L n f S wr) (hB : Bd + 1 < B) (hb : Below wr.heap.size wr.drew w') : SumR w Bd B off L n f T (set8 w' (Bd + 1) T) := by
  have hz := h.z
  have h1 : Below (Bd + 1) wr (set8 w' (Bd + 1) T) := below8_set T ((Below.refl (Bd + 1) wr).drew.trans (hb.mono (by omega))) (Nat.le_refl _)
  refine ⟨row8_set T (h.s.drew.below hb (by omega)), reads8_set T (Reads.below (h.r.drewN 1) hb hz) (by omega), h.d.below h1 (by omega), h.b.trans (h1.mono (by omega)), Nat.lt_of_lt_of_le hz h1.size⟩

set_option maxRecDepth 100000 in
set_option maxHeartbeats 4000000 in
theorem refSum_any (p : Option Addr) (n c : Nat) (f : Nat → Nat) (w : World) (hb : Bytes w p n c f) (hn : n ≤ 4096) :
    Calls Tryd.prog 100 #[.slice p n c] w fun e w' => e = .returned (d32 (Sha.sum n f)) ∧ Below w.heap.size w w' := by
  have HB := Lib.hid hb
  have HN := Lib.hid hn
  have b1 : (n : Int) ≤ 4096 := by omega
  clear hb hn
  go_enter Tryd.func100, Tryd.ntmps100
  go_wp2_with fail
  obtain ⟨W2, hW2⟩ : ∃ W2 : World, W2 = (w.alloc (.cells #[.int .u8 0, .int .u8 0, .int .u8 0, .int .u8 0, .int .u8 0, .int .u8 0, .int .u8 0, .int .u8 0, .int .u8 0, .int .u8 0, .int .u8 0, .int .u8 0, .int .u8 0, .int .u8 0, .int .u8 0, .int .u8 0, .int .u8 0, .int .u8 0, .int .u8 0, .int .u8 0, .int .u8 0, .int .u8 0, .int .u8 0, .int .u8 0, .int .u8 0, .int .u8 0, .int .u8 0, .int .u8 0, .int .u8 0, .int .u8 0, .int .u8 0, .int .u8 0] 44)).alloc (.cells #[.int .u32 1779033703, .int .u32 3144134277, .int .u32 1013904242, .int .u32 2773480762, .int .u32 1359893119, .int .u32 2600822924, .int .u32 528734635, .int .u32 1541459225] 102) := ⟨_, rfl⟩
  rw [← hW2]
  have hS0 : W2.heap.size = w.heap.size + 2 := by rw [hW2, alloc_size, alloc_size]
  have hB0 : Below w.heap.size w W2 := by rw [hW2]; exact ((Below.refl _ _).alloc (Nat.le_refl _) _).alloc (by rw [alloc_size]; omega) _
  have hD0 : Row W2 w.heap.size 0 32 .u8 (fun _ => 0) := by
    rw [hW2]
    refine Row.alloc (row_list w (List.replicate 32 0) _ 32 .u8 _ fun i hi => ?_) (by rw [alloc_size]; omega) _
    have all : ∀ j : Fin 32, (List.replicate 32 (0 : Int))[j.val]? = some 0 := by decide +kernel
    exact all ⟨i, hi⟩
  have hR0 : Row W2 (w.heap.size + 1) 0 8 .u32 (fun i => (Sha.iv.get i : Int)) := by
    rw [hW2]
    have h := row_list (w.alloc (.cells ((List.replicate 32 0).map (Value.int .u8)).toArray 44)) [1779033703, 3144134277, 1013904242, 2773480762, 1359893119, 2600822924, 528734635, 1541459225] 102 8 .u32 (fun i => (Sha.iv.get i : Int)) (fun i hi => by
      have all : ∀ j : Fin 8, ([1779033703, 3144134277, 1013904242, 2773480762, 1359893119, 2600822924, 528734635, 1541459225] : List Int)[j.val]? = some (Sha.iv.get j.val : Int) := by decide +kernel
      exact all ⟨i, hi⟩)
    rw [alloc_size] at h
    exact h
  have hT0 := Lib.hid (HB.out.below hB0 (Nat.le_refl _))
  clear hW2
  have HP := Lib.hid (padded_any p n c f W2 hT0.out HN.out)
  generalize hBd : w.heap.size = Bd at *
  have HBD := Lib.hid hBd
  have HS0 := Lib.hid hS0
  have HD := Lib.hid hD0
  have HR := Lib.hid hR0
  have HW := Lib.hid hB0
  clear hS0 hD0 hR0 hB0 hT0 hBd
  refine HP.out.mono ?_
  rintro e w3 ⟨r, rfl, hr, hb3⟩
  obtain ⟨p5, c5, rfl, hb5, hc5⟩ := Bytes.own hr (fun i hi => bl_get _ _ i hi) (fun i _ => Sha.pad_lt HB.out.byte i)
  have hnb : n + 9 ≤ 64 * Sha.nb n ∧ 64 * Sha.nb n ≤ n + 72 := by unfold Sha.nb; omega
  obtain ⟨B, off, rfl, hlt, hrd⟩ := hb5.lies (by omega)
  have hle := hb5.le
  have hBB : W2.heap.size ≤ B := by
    rcases hr.2 with h0 | ⟨g, cap, cur, hv, hg, _⟩
    · exact absurd h0.2 (by omega)
    · injection hv with h1 _ _
      injection h1 with h2
      injection h2 with h3 _ _
      omega
  have HD3 := Lib.hid (HD.out.below hb3 (by have := HS0.out; omega))
  have HR3 := Lib.hid (HR.out.below hb3 (by have := HS0.out; omega))
  have HW3 := Lib.hid (HW.out.trans (hb3.mono (by have := HS0.out; omega)))
  have HRD := Lib.hid hrd
  have HLT : Hid (B < w3.heap.size ∧ Bd + 1 < B) := Lib.hid ⟨hlt, by have := HS0.out; omega⟩
  have HNB := Lib.hid hnb
  have bc : (c5 : Int) ≤ 9223372036854775807 := by omega
  obtain ⟨L, hL⟩ : ∃ L, L = 64 * Sha.nb n := ⟨_, rfl⟩
  have HBY : Hid (∀ i, Sha.pad n f i < 256) := Lib.hid fun i => Sha.pad_lt HB.out.byte i
  rw [← hL] at hle
  have HRD' : Hid (Reads w3 B off L .u8 (fun i => (Sha.pad n f i : Int))) := Lib.hid (by rw [hL]; exact hrd)
  have hLc : (L : Int) ≤ (c5 : Int) := by omega
  have hL8 : (L : Int) ≤ 8192 := by have := HN.out; omega
  rw [← hL]
  have HL := Lib.hid hL
  clear HP hr hb3 hb5 hc5 hnb hlt hrd hle hBB HRD HD HR HW hL
  go_wp2_with fail
  go_loopg [5] (Sha.nb n) (fun g x wr => ∃ (k j : Nat), x = .int .i64 k ∧ Hid (k = 64 * j ∧ j + g = Sha.nb n) ∧ Hid (Row wr (Bd + 1) 0 8 .u32 (fun i => ((Sha.st n f j).get i : Int))) ∧ Hid (Reads wr B off L .u8 (fun i => (Sha.pad n f i : Int))) ∧
    Hid (Row wr Bd 0 32 .u8 (fun _ => 0)) ∧ Hid (Below Bd w wr) ∧ Hid (B < wr.heap.size))
  case atStart => exact ⟨0, 0, rfl, Lib.hid ⟨rfl, Nat.zero_add _⟩, HR3, HRD', HD3, HW3, Lib.hid HLT.out.1⟩
  case round =>
    clear HD3 HR3 HW3 HRD'
    obtain ⟨k, j, rfl, hk, hR, hP, hD, hB, hS⟩ := hrel
    by_cases h : k < L
    · have hkL : k + 64 ≤ L := by have h1 := hk.out; have h2 := HL.out; omega
      have t1 : decide ((k : Int) < (L : Int)) = true := by rw [decide_eq_true_eq]; omega
      have t1' : decide (k < L) = true := by rw [decide_eq_true_eq]; exact h
      have b3 : (k : Int) + 64 ≤ (L : Int) := by omega
      have b4 : (k : Int) + 64 ≤ (c5 : Int) := by omega
      have b4' : k + 64 ≤ c5 := by omega
      have b5 : (k : Int) ≤ 8192 := by omega
      have wr1 : IntKind.i64.wrap ((k : Int) + 64) = (k : Int) + 64 := by rw [IntKind.wrap_i64]; omega
      have wr2 : IntKind.i64.wrap (k : Int) = (k : Int) := by rw [IntKind.wrap_i64]; omega
      obtain ⟨S, hSt⟩ : ∃ S, S = Sha.st n f j := ⟨_, rfl⟩
      have hok : S.ok := by rw [hSt]; exact Sha.st_ok n f j
      have hst : Sha.blk Sha.kk (fun t => Sha.be4 (fun i => Sha.pad n f (64 * j + i)) (4 * t)) S = Sha.st n f (j + 1) := by rw [hSt]; exact st_step n f _ j (fun _ => rfl)
      have hC := fun (W : World) (hW : W.heap = wr.heap) => rblock_any S hok B (off + k) (c5 - k) (fun i => Sha.pad n f (64 * j + i)) (fun i => HBY.out _) (by omega) W (by rw [hW]; exact hS.out) (fun i hi => by
        have h1 := hP.out (k + i) (by omega)
        rw [show off + k + i = off + (k + i) by omega, ← hk.out.1]
        show W.cell? ⟨B, off + (k + i), none⟩ = _
        rw [World.cell?_of_block (w := wr) (by rw [hW])]
        exact h1)
      rw [hst] at hC
      unfold s8L at hC
      rw [← hSt] at hR
      have HZ : Hid (Bd + 1 < wr.heap.size) := Lib.hid (Nat.lt_trans HLT.out.2 hS.out)
      obtain ⟨T, hTe⟩ : ∃ T, T = Sha.st n f (j + 1) := ⟨_, rfl⟩
      rw [← hTe] at hC
      have HTE := Lib.hid hTe
      clear hTe
      have HC := Lib.hid hC
      have HST := Lib.hid hSt
      have c := row8_facts hR.out
      have HK := Lib.hid hkL
      clear hC hst hok hSt hkL h
      go_wp2_with fail
      go_region_with (first | (go_at_call 114; refine (HC.out wr.drew rfl).mono ?_; rintro e w' ⟨rfl, hb1⟩; have hz := row8_facts ((hR.out.drew).below hb1 HZ.out)))
      all_goals
        have hN : SumR w Bd B off L n f T (set8 w' (Bd + 1) T) := SumR.step (S := S) T ⟨hR.out, hP.out, hD.out, hB.out, hS.out⟩ HLT.out.2 hb1
        change Exit.inBlock _ _ _ _ (set8 w' (Bd + 1) T)
        have HNN := Lib.hid hN
        clear hN hz hb1 c hR hP hD hB hS HZ HC
        generalize set8 w' (Bd + 1) T = w9 at *
        go_wp2_with fail
        go_roundg (Sha.nb n - (j + 1))
        case rel => exact ⟨k + 64, j + 1, by go_num, Lib.hid ⟨by have := HK.out; have := hk.out; omega, by have := hk.out; have := HK.out; have := HL.out; omega⟩, Lib.hid (by rw [← HTE.out]; exact HNN.out.s), Lib.hid HNN.out.r, Lib.hid HNN.out.d, Lib.hid HNN.out.b, Lib.hid HNN.out.z⟩
        case measure => have := HK.out; have := hk.out; have := HL.out; omega
    · obtain rfl : k = L := by have h1 := hk.out; have h2 := HL.out; omega
      have t1 : decide ((k : Int) < (k : Int)) = false := by rw [decide_eq_false_iff_not]; omega
      have hj : j = Sha.nb n := by have h1 := hk.out; have h2 := HL.out; omega
      rw [hj] at hR
      obtain ⟨zs, hzs⟩ : ∃ zs : List Value, zs = List.replicate 32 (Value.int .u8 0) := ⟨_, rfl⟩
      have HZS := Lib.hid hzs
      have hbz : Tryd.prog.built 44 [] = some zs.toArray := by rw [hzs]; kernel_rfl
      have hth : (wr.alloc (.cells (List.replicate 32 (Value.int .u8 0)).toArray 44)).there wr.heap.size 0 zs.toArray.size := by rw [hzs]; exact there_zeros32 wr _
      have hz64 : (Tryd.prog.info? 44).map (·.size) = some zs.toArray.size := by rw [hzs]; kernel_rfl
      have hz1 : zs.toArray.all (·.oneCell') = true := by rw [hzs]; kernel_rfl
      have HBZ := Lib.hid hbz
      have HTH := Lib.hid hth
      have HZ6 := Lib.hid hz64
      have HZ1 := Lib.hid hz1
      clear h hzs hbz hth hz64 hz1
      go_wp2_with first
        | (refine wpList_build rfl 44 #[] rfl zs.toArray (by rw [Array.map_empty]; exact HBZ.out) ?_)
        | (refine wpList_store_mid rfl 44 (.tmp 6) (.tmp 24) rfl wr.heap.size 0 zs.toArray rfl rfl HTH.out HZ6.out HZ1.out ?_)
      change Code.wp Tryd.prog _ _ _ ((wr.alloc (.cells (List.replicate 32 (Value.int .u8 0)).toArray 44)).setCells wr.heap.size 0 zs)
      have hE := row_store32 (wr.alloc (.cells (List.replicate 32 (Value.int .u8 0)).toArray 44)) wr.heap.size zs (fun _ => 0) (row_zeros32 wr 44) (fun i hi => by rw [HZS.out, List.getElem?_replicate, if_pos hi]) (by rw [HZS.out, List.length_replicate])
      have hbE : Below wr.heap.size wr ((wr.alloc (.cells (List.replicate 32 (Value.int .u8 0)).toArray 44)).setCells wr.heap.size 0 zs) := below_cells (Nat.le_refl _) _ _ _ ((Below.refl _ _).alloc (Nat.le_refl _) _)
      generalize (wr.alloc (.cells (List.replicate 32 (Value.int .u8 0)).toArray 44)).setCells wr.heap.size 0 zs = wd at *
      have hzE : Bd + 1 < wr.heap.size := Nat.lt_trans HLT.out.2 hS.out
      generalize hEn : wr.heap.size = E at *
      have HS9 := Lib.hid (hR.out.below hbE hzE)
      have HD9 := Lib.hid (hD.out.below hbE (by omega))
      have HB9 := Lib.hid (hB.out.trans (hbE.mono (by omega)))
      have HE9 := Lib.hid hE
      have HZE := Lib.hid hzE
      obtain ⟨S, hSt⟩ : ∃ S, S = Sha.st n f (Sha.nb n) := ⟨_, rfl⟩
      rw [← hSt] at HS9
      have HST := Lib.hid hSt
      clear hE hbE hzE hR hD hB hP hS hEn hSt HBZ HTH HZ6 HZ1
      go_loopg [7] 32 (fun g x wr => ∃ i : Nat, i + g = 32 ∧ x = .int .i64 i ∧ Hid (Row wr E 0 32 .u8 (fun q => if q < i then ((Sha.sum n f q : Nat) : Int) else 0)) ∧ Hid (Row wr (Bd + 1) 0 8 .u32 (fun i => (S.get i : Int))) ∧ Hid (Row wr Bd 0 32 .u8 (fun _ => 0)) ∧ Hid (Below Bd w wr))
      case atStart => exact ⟨0, rfl, rfl, Lib.hid (HE9.out.congr fun q _ => by rw [if_neg (Nat.not_lt_zero _)]), HS9, HD9, HB9⟩
      case round =>
        clear HE9 HS9 HD9 HB9
        obtain ⟨i, hi, rfl, hE, hR, hD, hB⟩ := hrel
        by_cases h : i < 32
        · have t2 : decide ((i : Int) < 32) = true := by rw [decide_eq_true_eq]; omega
          have r0 : (i : Int) < 32 := by omega
          obtain ⟨a, ha⟩ : ∃ a, a = i / 4 := ⟨_, rfl⟩
          obtain ⟨r, hr⟩ : ∃ r, r = i % 4 := ⟨_, rfl⟩
          obtain ⟨sh, hsh⟩ : ∃ sh, sh = 24 - 8 * r := ⟨_, rfl⟩
          have e1 : (i : Int).tdiv 4 = (a : Int) := by rw [Int.tdiv_eq_ediv_of_nonneg (by omega)]; omega
          have e1' : (i : Int) / 4 = (a : Int) := by omega
          have e2 : (i : Int).tmod 4 = (r : Int) := by rw [Int.tmod_eq_emod_of_nonneg (by omega)]; omega
          have e2' : (i : Int) % 4 = (r : Int) := by omega
          have e3 : (24 : Int) - 8 * (r : Int) = (sh : Int) := by omega
          have r1 : (a : Int) < 8 := by omega
          have r2 : (r : Int) < 4 := by omega
          have r3 : (sh : Int) ≤ 24 := by omega
          have cv : wr.cell? ⟨Bd + 1, a, none⟩ = some (.int .u32 (S.get a : Int)) := by have := hR.out.cell a (by omega); rw [Nat.zero_add] at this; exact this
          have ce := hE.out.cell i h
          have fe := hE.out.free i h
          rw [Nat.zero_add] at ce fe
          obtain ⟨old, ho⟩ : ∃ old, wr.cell? ⟨E, i, none⟩ = some (.int .u8 old) := ⟨_, ce⟩
          obtain ⟨v, hv⟩ : ∃ v, v = S.get a := ⟨_, rfl⟩
          rw [← hv] at cv
          obtain ⟨y2, hy2⟩ : ∃ y, y = v / 2 ^ sh := ⟨_, rfl⟩
          obtain ⟨z, hz⟩ : ∃ z, z = y2 % 256 := ⟨_, rfl⟩
          have e8 : (v : Int) / 2 ^ sh = (y2 : Int) := by rw [hy2]; push_cast; rfl
          have e9 : IntKind.u8.wrap (y2 : Int) = (z : Int) := by
            rw [hz]
            simp only [IntKind.wrap, IntKind.bits, IntKind.signed]; simp
          have hsum : Sha.sum n f i = z := by
            unfold Sha.sum
            rw [← HST.out, ← ha, ← hr, ← hsh, ← hv, ← hy2, hz]
          have HSUM := Lib.hid hsum
          have HI := Lib.hid hi
          have H32 := Lib.hid h
          clear ce hv hy2 hz hsum ha hr hsh hi h
          go_wp2_with fail
          go_roundg (32 - (i + 1))
          case rel =>
            have h32 := H32.out
            have hze := HZE.out
            have hE' := hE.out.set (i := i) h32 (z : Int)
            rw [Nat.zero_add] at hE'
            refine ⟨i + 1, by omega, by go_num, Lib.hid (hE'.congr fun q hq => ?_), Lib.hid (hR.out.other (a := ⟨E, i, none⟩) (by show E ≠ _; omega) _), Lib.hid (hD.out.other (a := ⟨E, i, none⟩) (by show E ≠ _; omega) _), Lib.hid (hB.out.setCell (p := ⟨E, i, none⟩) (by show Bd ≤ E; omega) _)⟩
            by_cases e : q = i
            · subst e; rw [if_pos rfl, if_pos (Nat.lt_succ_self _), HSUM.out]
            · rw [if_neg e]
              by_cases e' : q < i
              · rw [if_pos e', if_pos (by omega)]
              · rw [if_neg e', if_neg (by omega)]
          case measure => have := HI.out; have := H32.out; omega
        · obtain rfl : i = 32 := by omega
          have t2 : decide (((32 : Nat) : Int) < 32) = false := by decide
          have hE2 : Row wr E 0 32 .u8 (fun q => ((Sha.sum n f q : Nat) : Int)) := hE.out.congr fun q hq => by rw [if_pos hq]
          have hrg := Lib.hid (range32 hE2.reads)
          have hth := Lib.hid hD.out
          clear h hi hE2 hE
          go_wp2_with first
            | (refine wpList_load_mid rfl 44 (.tmp 6) rfl E 0 rfl (c32 (Sha.sum n f)) (.array 32 5) hrg.out (by kernel_rfl) rfl (by rw [c32_length]; kernel_rfl) ?_)
            | (refine wpList_store_mid rfl 44 (.tmp 2) (.tmp 41) rfl Bd 0 (c32 (Sha.sum n f)).toArray rfl rfl (by rw [List.size_toArray, c32_length]; exact there32 hth.out) (by rw [List.size_toArray, c32_length]; kernel_rfl) (c32_one _) ?_)
          have hst := range32 (hth.out.store (g := Sha.sum n f)).reads
          refine bodyPost_ret (v := d32 (Sha.sum n f)) (results_cell rfl rfl (run_loadVar_mid _ Bd 0 44 (c32 (Sha.sum n f)) (.array 32 5) hst (by kernel_rfl) rfl (by rw [c32_length]; kernel_rfl))) rfl ⟨rfl, ?_⟩
          rw [HBD.out]
          exact below_cells (Nat.le_refl _) _ _ _ hB.out
end Go.Proofs.YtelikpkekloffaaDoor
