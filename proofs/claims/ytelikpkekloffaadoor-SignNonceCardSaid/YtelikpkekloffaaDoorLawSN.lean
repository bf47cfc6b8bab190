/- The law SignNonce, walked: whatever its arguments, it returns true. -/
import Derived.Test.YtelikpkekloffaaDoorSane5
namespace Go.Proofs.YtelikpkekloffaaDoor
open Go.RowKit

/-- append of bytes to an own row, where the operation is guarded and the guard holds. -/
theorem wpList_append_g (w : World) {ops : Array Oper} {rest : List Oper} {o : Oper} {a : Act} {Q : Exit → Act → World → Prop} (hw : Region.wanted o (yielded ops a.tmps) = true) (s x : Operand)
    (ho : o.op = .call { callee := .builtin .append, args := #[s, x], argTypes := #[33, 33] }) (base : Nat) (v : Value) (n : Nat) (xs : List Value) (hs : a.eval s = v) (hown : w.ownsRow base 5 1 v n xs)
    (p : Option Addr) (m c : Nat) (f : Nat → Nat) (hx : a.eval x = .slice p m c) (hb : Bytes w p m c f) (hle : n + m ≤ 140737488355328) (hbase : base ≤ w.heap.size)
    (h : ∀ v' w', Hid (w'.ownsRow base 5 1 v' (n + m) (xs ++ bl m f) ∧ Below base w w') → wpList Tryd.prog ops Q rest (a.put o.dst v') w') : wpList Tryd.prog ops Q (o :: rest) a w := by
  obtain ⟨i, hi, hzz⟩ := Option.map_eq_some_iff.1 info8
  simp only [Prod.mk.injEq] at hzz
  obtain ⟨hz, hs1, hb1⟩ := hzz
  refine wpList_step fun K hK => ?_
  rw [if_pos hw]
  cases p with
  | none =>
    have hc := hb.nil rfl
    have hm : m = 0 := by have := hb.le; omega
    subst hc hm
    have hrun := run_append_owned_none (P := Tryd.prog) (w := w) base 33 o.type 5 i 1 Tryd.underlying33 hi v n xs hown
    have h1 := hK _ _ (h v w (Lib.hid ⟨by simpa [bl] using hown, Below.refl _ _⟩))
    unfold Oper.wp
    simp [execOp, ho, resolve, invoke, builtin, hs, hx, hrun, Result.andThen]
    exact h1
  | some ad =>
    have hplain : ∀ j u, (bl m f)[j]? = some u → w.cell? (ad.add j) = some u := fun j u hu => by
      have hj : j < m := by have := (List.getElem?_eq_some_iff.1 hu).1; rw [bl_length] at this; exact this
      obtain ⟨B, off, h1, _, _⟩ := hb.lies (by omega)
      obtain rfl : ad = ⟨B, off, none⟩ := by simpa using h1
      exact hb.cells j u hu
    refine wp_append_own w s x 33 ho base 5 i (.int .u8 0) 1 1 Tryd.underlying33 hi hz hs1 hb1 rfl (by decide) v n xs hs hown ad m c (bl m f) hx (by rw [bl_length, Nat.mul_one]) hplain (bl_one m f) (by unfold maxLen; omega) (by omega) hbase ?_
    intro v' w' h1 h2 h3
    exact hK _ _ (h v' w' (Lib.hid ⟨h1, below_grown h2 (fun k hk => (hown.lt k hk).1) hbase⟩))

theorem nonce_cat (x : Int) (n : Nat) (f : Nat → Nat) : scOf nonceT (8 + n) (Sha.cat 8 (by8 (uN x)) f) = noOf x n f := by
  unfold noOf
  refine scOf_congr fun i hi => ?_
  show (if i < 8 then by8 (uN x) i else f (i - 8)) = (if i < 8 * 1 then nb8 (fun _ => x) i else f (i - 8 * 1))
  by_cases h : i < 8
  · rw [if_pos h, if_pos (by omega)]; unfold nb8; rw [show i % 8 = i by omega]
  · rw [if_neg h, if_neg (by omega)]

set_option maxRecDepth 100000 in
set_option maxHeartbeats 4000000 in
theorem signNonce_any (a : Int) (p : Option Addr) (n c : Nat) (f : Nat → Nat) (w : World) (hT : Tabs w) (hb : Bytes w p n c f) (hn : n ≤ 140737488351232) :
    Calls Tryd.prog 17 #[.int .i64 a, .slice p n c] w fun e w' => e = .returned (.bool true) ∧ Below w.heap.size w w' := by
  have X0 := Lib.hid (fun w hT => sane5 w hT)
  have HT := Lib.hid hT
  have HB := Lib.hid hb
  have b1 : (n : Int) ≤ 140737488351232 := by omega
  clear hT hb
  by_cases h : 300 < n
  · have t1 : decide ((300 : Int) < (n : Int)) = true := by rw [decide_eq_true_eq]; omega
    clear h hn
    go_enter Tryd.func17, Tryd.ntmps17
    go_wp2_with fail
    refine (X0.out _ HT.out).mono ?_
    rintro e w1 ⟨rfl, hB⟩
    go_wp2_with fail
    go_ret
    exact ⟨rfl, hB⟩
  · have t1 : decide ((300 : Int) < (n : Int)) = false := by rw [decide_eq_false_iff_not]; omega
    have hn3 : n ≤ 1000 := by omega
    have HN := Lib.hid hn3
    clear h hn hn3
    go_enter Tryd.func17, Tryd.ntmps17
    go_wp2_with fail
    refine (X0.out _ HT.out).mono ?_
    rintro e w1 ⟨rfl, hB⟩
    go_wp2_with fail
    obtain ⟨x, hx1, hx2, hk⟩ := key_any a w1
    refine hk.mono ?_
    rintro e w2 ⟨rfl, rfl⟩
    have P1 := Lib.hid (fun w => pub_ok x hx1 hx2 w)
    have P2 := Lib.hid (fun (W : World) (hb : Below w.heap.size w W) => sign_ok x hx1 hx2 p n c f W (HT.out.below hb) (HB.out.below hb (Nat.le_refl _)) HN.out)
    have P3 := Lib.hid (fun (W : World) (hb : Below w.heap.size w W) => challenge_any (Gp.pw 4611686018427377339 4 x : Nat) (sgR x n f : Int) p n c f W (HT.out.below hb) (HB.out.below hb (Nat.le_refl _)) HN.out)
    have P4 := Lib.hid (fun w => fmul_ok (sgC x n f) x (sgC_lt x n f) hx2 w)
    have P5 := Lib.hid (fun w => fsub_ok (sgS x n f) (Gp.mu 2305843009213688669 (sgC x n f) x) (sgS_lt x n f) (Gp.mu_lt (by decide)) w)
    rw [sg_nonce] at P5
    have P6 := Lib.hid (fun w => baseE (sgK_lt x n f) (r := sgR x n f) rfl w)
    have P7 := Lib.hid (fun w => number_any (x : Int) w)
    unfold sgV at P2
    rw [show chOf (sgR x n f : Int) (Gp.pw 4611686018427377339 4 x : Nat) n f = sgC x n f from rfl] at P3
    have HK : Hid (noOf (x : Int) n f = sgK x n f) := Lib.hid rfl
    generalize Gp.mu 2305843009213688669 (sgC x n f) x = M at *
    generalize Gp.pw 4611686018427377339 4 x = P at *
    generalize sgC x n f = C at *
    generalize sgR x n f = R at *
    generalize sgS x n f = S at *
    generalize sgK x n f = K at *
    clear hx1 hx2 hk X0
    go_wp2_with fail
    refine (P1.out _).mono ?_
    rintro e w3 ⟨rfl, hb1⟩
    replace hB := hB.trans (hb1.mono hB.size)
    clear hb1 P1
    go_wp2_with fail
    refine (P2.out _ hB).mono ?_
    rintro e w4 ⟨rfl, hb1⟩
    replace hB := hB.trans (hb1.mono hB.size)
    clear hb1 P2
    have hV := VG.first w4 R S
    replace hB := hB.alloc hB.size (.cells #[.int .i64 R, .int .i64 S] 61)
    have hv := hV.all
    go_wp2_with fail
    generalize w4.alloc (.cells #[.int .i64 R, .int .i64 S] 61) = w5 at *
    refine (P3.out _ hB).mono ?_
    rintro e w6 ⟨rfl, hb1⟩
    replace hB := hB.trans (hb1.mono hB.size)
    replace hV := hV.next hb1 (Nat.le_refl _)
    clear hv
    have hv := hV.all
    clear hb1 P3
    go_wp2_with fail
    refine (P4.out _).mono ?_
    rintro e w7 ⟨rfl, hb1⟩
    replace hB := hB.trans (hb1.mono hB.size)
    replace hV := hV.next hb1 (Nat.le_refl _)
    clear hv
    have hv := hV.all
    clear hb1 P4
    go_wp2_with fail
    refine (P5.out _).mono ?_
    rintro e w8 ⟨rfl, hb1⟩
    replace hB := hB.trans (hb1.mono hB.size)
    replace hV := hV.next hb1 (Nat.le_refl _)
    clear hv
    have hv := hV.all
    clear hb1 P5
    go_wp2_with fail
    refine (P6.out _).mono ?_
    rintro e w9 ⟨rfl, hb1⟩
    replace hB := hB.trans (hb1.mono hB.size)
    replace hV := hV.next hb1 (Nat.le_refl _)
    clear hv
    have hv := hV.all
    clear hb1 P6
    go_wp2_with fail
    refine (P7.out _).mono ?_
    rintro e w10 ⟨v1, rfl, hr1, hb1⟩
    have hB10 := hB.trans (hb1.mono hB.size)
    have HR1 := Lib.hid hr1
    have HB1 := Lib.hid hb1
    clear hb1 P7 hv hr1
    have HBm := Lib.hid (HB.out.below hB10 (Nat.le_refl _))
    go_wp2_with (at_builtin; refine wpList_append_g _ (by rfl) (.tmp 81) (.tmp 82) rfl w9.heap.size _ 8 _ rfl HR1.out p n c f rfl HBm.out (by have := HN.out; omega) HB1.out.size ?_; intro v2 w11 ho2)
    have ho5 := ho2.out.1
    rw [bl_cat] at ho5
    have hB11 := hB10.trans (ho2.out.2.mono hB.size)
    obtain ⟨p5, c5, rfl, hb5, hc5⟩ := Bytes.own ho5 (fun i hi => bl_get _ _ i hi) (fun i hi => by
      unfold Sha.cat
      by_cases h : i < 8
      · rw [if_pos h]; exact by8_lt _ _
      · rw [if_neg h]; exact HB.out.byte _ (by omega))
    have hs := scalar_any nonceT p5 (8 + n) c5 (Sha.cat 8 (by8 (uN (x : Int))) f) w11 (HT.out.below hB11) hb5 (by have := HN.out; omega) (by decide) hc5
    rw [nonce_cat, HK.out] at hs
    have HS := Lib.hid hs
    clear hs hb5 hc5 ho2 ho5 HR1 HB1 HBm HK hB10
    go_wp2_with fail
    refine HS.out.mono ?_
    rintro e w12 ⟨rfl, hb1⟩
    replace hB := hB11.trans (hb1.mono hB11.size)
    clear hb1 HS
    go_wp2_with fail
    go_ret
    exact ⟨rfl, hB⟩
end Go.Proofs.YtelikpkekloffaaDoor
