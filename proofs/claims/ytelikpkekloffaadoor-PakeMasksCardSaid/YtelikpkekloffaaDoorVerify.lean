/- sign.Verify of this program, walked. -/
import Derived.Test.YtelikpkekloffaaDoorSign
import Derived.Laws.StructEq
import Derived.Deep.RegionHeld3
namespace Go.Proofs.YtelikpkekloffaaDoor
open Go.RowKit

def fChk (v : Int) : Int := if Gp.isSc v = true then 0 else 1
theorem fcheck_any (v : Int) (w : World) : Calls Tryd.prog 56 #[.int .i64 v] w fun e w' => e = .returned (.int .i64 (fChk v)) ∧ Below w.heap.size w w' := by
  unfold fChk
  cases h : Gp.isSc v with
  | true => exact fcheck_ok v h w
  | false => exact fcheck_no v h w

theorem underErrs : Tryd.prog.underlying 92 = some (.array 3 26) := by kernel_rfl
theorem underErr : Tryd.prog.underlying 26 = some (.int .i64) := by kernel_rfl
theorem sizeErr (w : World) : (sizeOf 26).run Tryd.prog w = .ok 1 w := by kernel_rfl
theorem aggErr (w : World) : (isAgg 26).run Tryd.prog w = .ok false w := by kernel_rfl
theorem eq3 (a b c d e f : Int) (w : World) : (Op.equalIn 10000 92 (.agg #[.int .i64 a, .int .i64 b, .int .i64 c]) (.agg #[.int .i64 d, .int .i64 e, .int .i64 f])).run Tryd.prog w = .ok (a == d && b == e && c == f) w := by
  have u3 := underErr
  have a3 := aggErr
  have z3 := sizeErr
  rw [show (10000 : Nat) = 9999 + 1 from rfl, Op.equalIn]
  simp only [Sem.run_bind, run_underlying underErrs, Result.andThen_ok]
  simp only [Std.Legacy.Range.forIn_eq_forIn_range', Std.Legacy.Range.size, Nat.sub_zero, Nat.add_sub_cancel, Nat.div_one, List.range'_succ, List.range'_zero, List.forIn_cons, List.forIn_nil]
  go_simp
  by_cases h1 : a = d <;> by_cases h2 : b = e <;> by_cases h3 : c = f <;> simp [h1, h2, h3]

/-- what stands while Verify calculates: its signature's cells in block D. -/
structure VG (D : Nat) (w : World) (R S : Int) (W : World) : Prop where
  ge : w.heap.size ≤ D
  below : Below D w W
  obj : W.heap[D]? = some (.cells #[.int .i64 R, .int .i64 S] 61)
theorem VG.lt {D : Nat} {w W : World} {R S : Int} (h : VG D w R S W) : D < W.heap.size := (Array.getElem?_eq_some_iff.1 h.obj).1
def VS (D : Nat) (w : World) (R S : Int) (W : World) : Prop := W.cell? ⟨D, 0, none⟩ = some (.int .i64 R) ∧ W.cell? ⟨D, 1, none⟩ = some (.int .i64 S) ∧ VG D w R S W
theorem VG.all {D : Nat} {w W : World} {R S : Int} (h : VG D w R S W) : W.cell? ⟨D, 0, none⟩ = some (.int .i64 R) ∧ W.cell? ⟨D, 1, none⟩ = some (.int .i64 S) ∧ VG D w R S W := by
  refine ⟨?_, ?_, h⟩ <;> simp [World.cell?, h.obj]
theorem VG.next {D b : Nat} {w W W' : World} {R S : Int} (h : VG D w R S W) (hb : Below b W W') (hD : W.heap.size ≤ b) : VG D w R S W' :=
  ⟨h.1, h.2.trans (hb.mono (by have := h.lt; omega)), by rw [hb.block D (by have := h.lt; omega)]; exact h.3⟩
theorem VG.step {D b : Nat} {w W W' : World} {R S : Int} (h : VG D w R S W) (hb : Below b W W') (hD : W.heap.size ≤ b) : W'.cell? ⟨D, 0, none⟩ = some (.int .i64 R) ∧ W'.cell? ⟨D, 1, none⟩ = some (.int .i64 S) ∧ VG D w R S W' := (h.next hb hD).all
theorem VG.steps {D b : Nat} {w W W' : World} {R S : Int} (h : W.cell? ⟨D, 0, none⟩ = some (.int .i64 R) ∧ W.cell? ⟨D, 1, none⟩ = some (.int .i64 S) ∧ VG D w R S W) (hb : Below b W W') (hD : W.heap.size ≤ b) : W'.cell? ⟨D, 0, none⟩ = some (.int .i64 R) ∧ W'.cell? ⟨D, 1, none⟩ = some (.int .i64 S) ∧ VG D w R S W' := h.2.2.step hb hD
/-- the newest block, of three cells, is not the signature's: it may be another one of three. -/
theorem VG.renew {D : Nat} {w W : World} {R S : Int} {x y z x' y' z' : Value} {t t' : TypeId} (h : (W.alloc (.cells #[x, y, z] t)).cell? ⟨D, 0, none⟩ = some (.int .i64 R) ∧ (W.alloc (.cells #[x, y, z] t)).cell? ⟨D, 1, none⟩ = some (.int .i64 S) ∧ VG D w R S (W.alloc (.cells #[x, y, z] t))) :
    (W.alloc (.cells #[x', y', z'] t')).cell? ⟨D, 0, none⟩ = some (.int .i64 R) ∧ (W.alloc (.cells #[x', y', z'] t')).cell? ⟨D, 1, none⟩ = some (.int .i64 S) ∧ VG D w R S (W.alloc (.cells #[x', y', z'] t')) := by
  have h := h.2.2
  have hl := h.lt
  rw [alloc_size] at hl
  have hne : D ≠ W.heap.size := by
    intro e
    have h3 := h.obj
    rw [e] at h3
    have h4 : (W.alloc (.cells #[x, y, z] t)).heap[W.heap.size]? = some (.cells #[x, y, z] t) := by
      show (W.heap.push _)[W.heap.size]? = _
      rw [Array.getElem?_push, if_pos rfl]
    rw [h4] at h3
    have h5 := Option.some.inj h3
    simp at h5
  have hb := h.below
  refine VG.all ⟨h.ge, ⟨hb.os, hb.tape, hb.output, by rw [alloc_size]; have := h.ge; omega, fun k hk => ?_⟩, ?_⟩
  · rw [Below.heap_alloc _ _ _ (by omega), ← Below.heap_alloc W (.cells #[x, y, z] t) k (by omega)]; exact hb.block k hk
  · rw [Below.heap_alloc _ _ _ (by omega), ← Below.heap_alloc W (.cells #[x, y, z] t) D (by omega)]; exact h.obj

/-- a block of three numbers, made behind the signature's. -/
structure Arr3 (D A : Nat) (x y z : Int) (W : World) : Prop where
  gt : D < A
  obj : W.heap[A]? = some (.cells #[.int .i64 x, .int .i64 y, .int .i64 z] 92)
def Arr (D A : Nat) (x y z : Int) (W : World) : Prop :=
  (W.cell? ⟨A, 0, none⟩ = some (.int .i64 x) ∧ W.cell? ⟨A, 1, none⟩ = some (.int .i64 y) ∧ W.cell? ⟨A, 2, none⟩ = some (.int .i64 z)) ∧
    (W.frozen? ⟨A, 0, none⟩ = false ∧ W.frozen? ⟨A, 1, none⟩ = false ∧ W.frozen? ⟨A, 2, none⟩ = false) ∧ Arr3 D A x y z W
theorem Arr3.all {D A : Nat} {x y z : Int} {W : World} (h : Arr3 D A x y z W) : Arr D A x y z W := by
  refine ⟨⟨?_, ?_, ?_⟩, ⟨?_, ?_, ?_⟩, h⟩ <;> simp [World.cell?, World.frozen?, h.obj]
theorem Arr3.first {D b : Nat} {w X W' : World} {H : Array Obj} {R S x y z : Int} (h : VS D w R S X) (hb : Below b X W') (hX : X.heap = H.push (.cells #[.int .i64 x, .int .i64 y, .int .i64 z] 92))
    (hD : X.heap.size ≤ b) : Arr D H.size x y z W' := by
  have h4 : X.heap[H.size]? = some (.cells #[.int .i64 x, .int .i64 y, .int .i64 z] 92) := by
    rw [hX, Array.getElem?_push, if_pos rfl]
  have hl := h.2.2.lt
  rw [hX, Array.size_push] at hl hD
  refine Arr3.all ⟨?_, by rw [hb.block _ (by omega)]; exact h4⟩
  have hne : D ≠ H.size := by
    intro e
    have h3 := h.2.2.obj
    rw [e, h4] at h3
    have h5 := Option.some.inj h3
    simp at h5
  omega
theorem Arr3.next {D A b : Nat} {W W' : World} {x y z : Int} (h : Arr D A x y z W) (hb : Below b W W') (hD : W.heap.size ≤ b) : Arr D A x y z W' :=
  Arr3.all ⟨h.2.2.gt, by rw [hb.block A (by have := (Array.getElem?_eq_some_iff.1 h.2.2.obj).1; omega)]; exact h.2.2.obj⟩
theorem VG.set {D A i : Nat} {w W : World} {R S : Int} (h : VG D w R S W) (hA : D < A) (v : Value) : VG D w R S (W.setCell ⟨A, i, none⟩ v) :=
  ⟨h.1, h.2.setCell (Nat.le_of_lt hA) _, by rw [Below.heap_setCell _ _ _ _ (by show D ≠ A; omega)]; exact h.3⟩
theorem VG.put3 {D A : Nat} {w W : World} {R S x y z : Int} {a b c : Value} (k : Arr D A x y z W) (h : VS D w R S W) :
    VS D w R S (((W.setCell ⟨A, 0, none⟩ a).setCell ⟨A, 1, none⟩ b).setCell ⟨A, 2, none⟩ c) := (((h.2.2.set k.2.2.gt _).set k.2.2.gt _).set k.2.2.gt _).all

theorem Arr3.fresh {D : Nat} {w W : World} {R S x y z : Int} (h : VS D w R S (W.alloc (.cells #[.int .i64 x, .int .i64 y, .int .i64 z] 92))) : Arr D W.heap.size x y z (W.alloc (.cells #[.int .i64 x, .int .i64 y, .int .i64 z] 92)) :=
  Arr3.first h (Below.refl (W.alloc (.cells #[.int .i64 x, .int .i64 y, .int .i64 z] 92)).heap.size _) rfl (Nat.le_refl _)
theorem Arr3.put {D A : Nat} {W : World} {x y z a b c : Int} (k : Arr D A x y z W) :
    Arr D A a b c (((W.setCell ⟨A, 0, none⟩ (.int .i64 a)).setCell ⟨A, 1, none⟩ (.int .i64 b)).setCell ⟨A, 2, none⟩ (.int .i64 c)) := by
  refine Arr3.all ⟨k.2.2.gt, ?_⟩
  simp [World.setCell, Array.getElem?_modify, k.2.2.obj]
def vfy (pub R S : Int) (n : Nat) (f : Nat → Nat) : Bool := if (Gp.gChk pub == 0 && Gp.gChk R == 0 && fChk S == 0) = true then Gp.pw 4611686018427377339 4 S.toNat == Gp.mu 4611686018427377339 R.toNat (Gp.pw 4611686018427377339 pub.toNat (chOf R pub n f)) else false
theorem beq_cast (l r : Nat) : ((l : Int) == (r : Int)) = (l == r) := by
  rw [Bool.eq_iff_iff, beq_iff_eq, beq_iff_eq]; omega
theorem chk_el {a : Int} (h : Gp.gChk a = 0) : ∃ m : Nat, a = (m : Int) ∧ Gp.El m := by
  unfold Gp.gChk at h
  cases hi : Gp.isEl a with
  | false => rw [hi] at h; exact absurd h (by decide)
  | true =>
    obtain ⟨m, e, _⟩ := Gp.isEl_nat hi
    rw [e] at hi
    exact ⟨m, e, Gp.El.of hi⟩
theorem chk_sc {a : Int} (h : fChk a = 0) : ∃ m : Nat, a = (m : Int) ∧ m < 2305843009213688669 := by
  unfold fChk at h
  cases hi : Gp.isSc a with
  | false => rw [hi] at h; exact absurd h (by decide)
  | true => exact Gp.isSc_nat hi

set_option maxHeartbeats 4000000 in
set_option maxRecDepth 100000 in
theorem verify_any (pub R S : Int) (p : Option Addr) (n c : Nat) (f : Nat → Nat) (w : World) (hT : Tabs w) (hb : Bytes w p n c f) (hn : n ≤ 1000) :
    Calls Tryd.prog 54 #[.int .i64 pub, .slice p n c, .agg #[.int .i64 R, .int .i64 S]] w fun e w' => e = .returned (.bool (vfy pub R S n f)) ∧ Below w.heap.size w w' := by
  have H1 := Lib.hid (fun a w => check_any a w)
  have H3 := Lib.hid (fun a w => fcheck_any a w)
  have HE := Lib.hid (fun w => eq3 (Gp.gChk pub) (Gp.gChk R) (fChk S) 0 0 0 w)
  have HT := Lib.hid hT
  have HB := Lib.hid hb
  have HN := Lib.hid hn
  obtain ⟨g, hg⟩ : ∃ g, g = (Gp.gChk pub == 0 && Gp.gChk R == 0 && fChk S == 0) := ⟨_, rfl⟩
  rw [← hg] at HE
  have HF : Hid (g = false → vfy pub R S n f = false) := Lib.hid fun e => by unfold vfy; rw [← hg, e]; rfl
  have HY : Hid (g = true → ∃ a b s : Nat, pub = (a : Int) ∧ R = (b : Int) ∧ S = (s : Int) ∧ Gp.El a ∧ Gp.El b ∧ s < 2305843009213688669 ∧
      vfy pub R S n f = (Gp.pw 4611686018427377339 4 s == Gp.mu 4611686018427377339 b (Gp.pw 4611686018427377339 a (chOf (b : Int) (a : Int) n f)))) := Lib.hid fun e => by
    rw [hg] at e
    have e' := e
    simp only [Bool.and_eq_true, beq_iff_eq] at e'
    obtain ⟨a, ea, ha⟩ := chk_el e'.1.1
    obtain ⟨b, eb, hb⟩ := chk_el e'.1.2
    obtain ⟨s, es, hs⟩ := chk_sc e'.2
    refine ⟨a, b, s, ea, eb, es, ha, hb, hs, ?_⟩
    unfold vfy
    rw [e, if_pos rfl, ea, eb, es]
    rfl
  clear hT hb hn hg
  go_enter Tryd.func54, Tryd.ntmps54
  go_upto_region 1 with fail
  have hG : VG w.heap.size w R S (w.alloc (.cells #[.int .i64 R, .int .i64 S] 61)) := ⟨Nat.le_refl _, (Below.refl _ _).alloc (Nat.le_refl _) _, by
    show (w.heap.push _)[w.heap.size]? = _
    rw [Array.getElem?_push, if_pos rfl]⟩
  generalize w.alloc (.cells #[.int .i64 R, .int .i64 S] 61) = w1 at *
  generalize hD : w.heap.size = D at *
  have c0 := hG.all.1
  have c1 := hG.all.2.1
  refine Code.wp_mono (Q := fun e a W => ∃ A : Nat, e = .normal ∧ a = ⟨#[.int .i64 pub, .slice p n c, .agg #[.int .i64 R, .int .i64 S], undef, undef, .pointer (some ⟨D, 0, none⟩), .bool false, .pointer (some ⟨A, 0, none⟩), undef, undef, undef, undef, undef, undef,
      .int .i64 pub, .int .i64 (Gp.gChk pub), .pointer (some ⟨D, 0, none⟩), .int .i64 R, .int .i64 (Gp.gChk R), .pointer (some ⟨D, 1, none⟩), .int .i64 S, .int .i64 (fChk S), .agg #[.int .i64 (Gp.gChk pub), .int .i64 (Gp.gChk R), .int .i64 (fChk S)],
      undef, undef, undef, undef, undef, undef, undef, undef, undef, undef, undef, undef, undef, undef, undef, undef, undef, undef, undef, undef, undef, undef, undef, undef, undef, undef, undef, undef, undef, undef], []⟩ ∧ Arr D A (Gp.gChk pub) (Gp.gChk R) (fChk S) W ∧ VG D w R S W) ?_ ?_
  · clear hG c0 c1 H1 H3
    rintro e a W ⟨A, rfl, rfl, hA, hV⟩
    unfold Arr at hA
    have hv := hV.all
    generalize Gp.gChk pub = q1 at *
    generalize Gp.gChk R = q2 at *
    generalize fChk S = q3 at *
    have he := HE.out
    clear HE
    cases g with
    | false =>
      go_wp2_with fail
      go_ret
      refine ⟨?_, hV.2⟩
      rw [HF.out (by trivial)]
      rfl
    | true =>
      obtain ⟨a, b, s, rfl, rfl, rfl, ha, hb, hs, hvf⟩ := HY.out rfl
      have HVF := Lib.hid hvf
      clear hvf HF HY
      have H4 := Lib.hid (fun w => baseE hs rfl w)
      have H5 := Lib.hid (fun (W : World) (hB : Below D w W) => sign_hash (b : Int) (a : Int) p n c f W (HT.out.below (by rw [hD]; exact hB)) (HB.out.below (by rw [hD]; exact hB) (Nat.le_refl _)) HN.out)
      have H6 := Lib.hid (fun w => expE (k := chOf (b : Int) (a : Int) n f) ha (scOf_lt _ _ _) rfl w)
      have H7 := Lib.hid (fun w => mulE hb (ha.pw (chOf (b : Int) (a : Int) n f)) rfl w)
      generalize Gp.mu 4611686018427377339 b (Gp.pw 4611686018427377339 a (chOf (b : Int) (a : Int) n f)) = r at *
      generalize Gp.pw 4611686018427377339 a (chOf (b : Int) (a : Int) n f) = e1 at *
      generalize Gp.pw 4611686018427377339 4 s = l at *
      generalize chOf (b : Int) (a : Int) n f = C at *
      clear ha hb hs
      go_wp2_with fail
      refine (H4.out _).mono ?_
      rintro e w2 ⟨rfl, hb1⟩
      have hv2 := (hV.next hb1 (Nat.le_refl _)).all
      clear hv hV hb1 H4 hA he
      go_wp2_with fail
      refine (H5.out _ hv2.2.2.below).mono ?_
      rintro e w3 ⟨rfl, hb1⟩
      have hv3 := (hv2.2.2.next hb1 (Nat.le_refl _)).all
      clear hv2 hb1 H5
      go_wp2_with fail
      refine (H6.out _).mono ?_
      rintro e w4 ⟨rfl, hb1⟩
      have hv4 := (hv3.2.2.next hb1 (Nat.le_refl _)).all
      clear hv3 hb1 H6
      go_wp2_with fail
      refine (H7.out _).mono ?_
      rintro e w5 ⟨rfl, hb1⟩
      have hv5 := (hv4.2.2.next hb1 (Nat.le_refl _)).all
      clear hv4 hb1 H7
      go_wp2_with fail
      go_ret
      refine ⟨?_, by rw [hD]; exact hv5.2.2.below⟩
      rw [HVF.out, ← beq_cast l r]
      rfl
  · go_region_held3 (fun w' => w'.cell? ⟨D, 0, none⟩ = some (.int .i64 R) ∧ w'.cell? ⟨D, 1, none⟩ = some (.int .i64 S) ∧ VG D w R S w')
      (first
        | (refine VG.step ?_ (Below.refl _ _).drew (Nat.le_refl _); assumption)
        | (refine VG.steps ?_ hb1 (Nat.le_refl _); assumption)
        | (refine VG.step ?_ ((Below.refl _ _).alloc (Nat.le_refl _) _).drew (Nat.le_refl _); assumption)
        | (refine VG.steps ?_ ((Below.refl _ _).alloc (Nat.le_refl _) _) (Nat.le_refl _); assumption)
        | (exact VG.renew (by assumption))
        | (exact VG.put3 (by assumption) (by assumption)))
      (first
        | (go_at_call 39; refine (H1.out _ _).mono ?_; rintro e w' ⟨rfl, hb1⟩; (try (have hz := Arr3.first (by assumption) hb1 rfl (Nat.le_refl _); unfold Arr at hz)); (try (have hz := Arr3.next (by assumption) hb1 (Nat.le_refl _); unfold Arr at hz)))
        | (go_at_call 56; refine (H3.out _ _).mono ?_; rintro e w' ⟨rfl, hb1⟩; (try (have hz := Arr3.first (by assumption) hb1 rfl (Nat.le_refl _); unfold Arr at hz)); (try (have hz := Arr3.next (by assumption) hb1 (Nat.le_refl _); unfold Arr at hz))))
    all_goals rename_i hH
    · exact ⟨_, rfl, rfl, Arr3.fresh hH, hH.2.2⟩
    · exact ⟨_, rfl, rfl, Arr3.put hz, hH.2.2⟩
    · exact ⟨_, rfl, rfl, Arr3.put hz, hH.2.2⟩
    · exact ⟨_, rfl, rfl, Arr3.put hz, hH.2.2⟩
end Go.Proofs.YtelikpkekloffaaDoor
