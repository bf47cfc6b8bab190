/- The law GroupPowers, walked: whatever its arguments, it returns true. -/
import Derived.Test.YtelikpkekloffaaSane4
import Derived.Test.YtelikpkekloffaaElW
import Derived.Test.YtelikpkekloffaaElem
import Derived.Test.YtelikpkekloffaaRefG
import Derived.Test.YtelikpkekloffaaField
namespace Go.Proofs.Ytelikpkekloffaa
open Go.RowKit

set_option maxRecDepth 100000 in
set_option maxHeartbeats 4000000 in
theorem powers_none (m : Nat) (j k : Int) (hm : m < 18446744073709551616)
    (h : m % 4611686018427377339 = 0 ∨ Gp.isSc j = false ∨ Gp.isSc k = false) (w : World) :
    Calls Try.prog 6 #[.int .u64 m, .int .i64 j, .int .i64 k] w fun e w' => e = .returned (.bool true) ∧ Below w.heap.size w w' := by
  have X0 := Lib.hid (fun w => sane4 w)
  have X1 := Lib.hid (fun w => element_any m hm w)
  have X2 := Lib.hid (fun w => isscalar_any j w)
  have X3 := Lib.hid (fun w => isscalar_any k w)
  have key : (((Gp.sq m : Nat) : Int) != 0) = false ∨ ((((Gp.sq m : Nat) : Int) != 0) = true ∧ Gp.isSc j = false) ∨ ((((Gp.sq m : Nat) : Int) != 0) = true ∧ Gp.isSc j = true ∧ Gp.isSc k = false) := by
    rcases h with h | h | h
    · rw [Gp.sq_zero h]; exact .inl rfl
    · rw [h]
      cases (((Gp.sq m : Nat) : Int) != 0)
      · exact .inl rfl
      · exact .inr (.inl ⟨rfl, rfl⟩)
    · rw [h]
      cases (((Gp.sq m : Nat) : Int) != 0)
      · exact .inl rfl
      · cases Gp.isSc j
        · exact .inr (.inl ⟨rfl, rfl⟩)
        · exact .inr (.inr ⟨rfl, rfl, rfl⟩)
  generalize (((Gp.sq m : Nat) : Int) != 0) = bm at *
  generalize Gp.isSc j = bj at *
  generalize Gp.isSc k = bk at *
  generalize Gp.sq m = a at *
  clear h hm
  rcases key with rfl | ⟨rfl, rfl⟩ | ⟨rfl, rfl, rfl⟩
  · go_enter Try.func6, Try.ntmps6
    go_wp2_with fail
    refine (X0.out _).mono ?_
    rintro e w1 ⟨rfl, hB⟩
    go_wp2_with fail
    refine (X1.out _).mono ?_
    rintro e w2 ⟨rfl, rfl⟩
    go_wp2_with fail
    go_ret
    exact ⟨rfl, hB⟩
  · go_enter Try.func6, Try.ntmps6
    go_wp2_with fail
    refine (X0.out _).mono ?_
    rintro e w1 ⟨rfl, hB⟩
    go_wp2_with fail
    refine (X1.out _).mono ?_
    rintro e w2 ⟨rfl, rfl⟩
    go_wp2_with fail
    refine (X2.out _).mono ?_
    rintro e w2 ⟨rfl, rfl⟩
    go_wp2_with fail
    go_ret
    exact ⟨rfl, hB⟩
  · go_enter Try.func6, Try.ntmps6
    go_wp2_with fail
    refine (X0.out _).mono ?_
    rintro e w1 ⟨rfl, hB⟩
    go_wp2_with fail
    refine (X1.out _).mono ?_
    rintro e w2 ⟨rfl, rfl⟩
    go_wp2_with fail
    refine (X2.out _).mono ?_
    rintro e w2 ⟨rfl, rfl⟩
    go_wp2_with fail
    refine (X3.out _).mono ?_
    rintro e w2 ⟨rfl, rfl⟩
    go_wp2_with fail
    go_ret
    exact ⟨rfl, hB⟩

set_option maxRecDepth 100000 in
set_option maxHeartbeats 4000000 in
theorem powers_core (m a j k x y su pr s p iv : Nat)
    (X1 : Hid (∀ w, Calls Try.prog 19 #[.int .u64 m] w fun e w' => e = .returned (.tuple #[.int .i64 a, .bool true]) ∧ w' = w))
    (ha : Hid (Gp.El a)) (hj : Hid (j < 2305843009213688669)) (hk : Hid (k < 2305843009213688669))
    (hx : Hid (Gp.El x ∧ Gp.pw 4611686018427377339 a j = x)) (hy : Hid (Gp.El y ∧ Gp.pw 4611686018427377339 a k = y))
    (hsu : Hid ((j + k) % 2305843009213688669 = su)) (hpr : Hid (Gp.mu 2305843009213688669 j k = pr)) (hsl : Hid (su < 2305843009213688669)) (hpl : Hid (pr < 2305843009213688669))
    (hs : Hid (Gp.mu 4611686018427377339 x y = s ∧ Gp.pw 4611686018427377339 a su = s)) (hp : Hid (Gp.pw 4611686018427377339 a pr = p ∧ Gp.pw 4611686018427377339 x k = p))
    (h0 : Hid (Gp.pw 4611686018427377339 a 0 = 1)) (h1 : Hid (Gp.pw 4611686018427377339 a 1 = a)) (hiv : Hid (Gp.pw 4611686018427377339 a 2305843009213688668 = iv)) (w : World) :
    Calls Try.prog 6 #[.int .u64 m, .int .i64 j, .int .i64 k] w fun e w' => e = .returned (.bool true) ∧ Below w.heap.size w w' := by
  have X0 := Lib.hid (fun w => sane4 w)
  have S1 : Hid (∀ w, Calls Try.prog 20 #[.int .i64 j] w fun e w' => e = .returned (.bool true) ∧ w' = w) := Lib.hid fun w => by
    have c := isscalar_any j w
    rw [Gp.isSc_of hj.out] at c
    exact c
  have S2 : Hid (∀ w, Calls Try.prog 20 #[.int .i64 k] w fun e w' => e = .returned (.bool true) ∧ w' = w) := Lib.hid fun w => by
    have c := isscalar_any k w
    rw [Gp.isSc_of hk.out] at c
    exact c
  have A0 := Lib.hid fun w => fadd_ok j k hj.out hk.out w
  rw [hsu.out] at A0
  have M0 := Lib.hid fun w => fmul_ok j k hj.out hk.out w
  rw [hpr.out] at M0
  go_enter Try.func6, Try.ntmps6
  go_wp2_with fail
  refine (X0.out _).mono ?_
  rintro e w1 ⟨rfl, hB⟩
  go_wp2_with fail
  refine (X1.out _).mono ?_
  rintro e w2 ⟨rfl, rfl⟩
  go_wp2_with fail
  refine (S1.out _).mono ?_
  rintro e w2 ⟨rfl, rfl⟩
  go_wp2_with fail
  refine (S2.out _).mono ?_
  rintro e w2 ⟨rfl, rfl⟩
  go_wp2_with fail
  refine (expE ha.out hj.out hx.out.2 _).mono ?_
  rintro e w3 ⟨rfl, hb1⟩
  replace hB := hB.trans (hb1.mono hB.size)
  clear hb1
  go_wp2_with fail
  refine (expE ha.out hk.out hy.out.2 _).mono ?_
  rintro e w4 ⟨rfl, hb1⟩
  replace hB := hB.trans (hb1.mono hB.size)
  clear hb1
  go_wp2_with fail
  refine (A0.out _).mono ?_
  rintro e w5 ⟨rfl, hb1⟩
  replace hB := hB.trans (hb1.mono hB.size)
  clear hb1
  go_wp2_with fail
  refine (M0.out _).mono ?_
  rintro e w6 ⟨rfl, hb1⟩
  replace hB := hB.trans (hb1.mono hB.size)
  clear hb1
  go_wp2_with fail
  refine (mulE hx.out.1 hy.out.1 hs.out.1 _).mono ?_
  rintro e w7 ⟨rfl, hb1⟩
  replace hB := hB.trans (hb1.mono hB.size)
  clear hb1
  go_wp2_with fail
  refine (expE ha.out hsl.out hs.out.2 _).mono ?_
  rintro e w8 ⟨rfl, hb1⟩
  replace hB := hB.trans (hb1.mono hB.size)
  clear hb1
  go_wp2_with fail
  refine (expE ha.out hpl.out hp.out.1 _).mono ?_
  rintro e w9 ⟨rfl, hb1⟩
  replace hB := hB.trans (hb1.mono hB.size)
  clear hb1
  go_wp2_with fail
  refine (expE hx.out.1 hk.out hp.out.2 _).mono ?_
  rintro e w10 ⟨rfl, hb1⟩
  replace hB := hB.trans (hb1.mono hB.size)
  clear hb1
  go_wp2_with fail
  refine (expE (k := 0) ha.out (by decide) h0.out _).mono ?_
  rintro e w11 ⟨rfl, hb1⟩
  replace hB := hB.trans (hb1.mono hB.size)
  clear hb1
  go_wp2_with fail
  refine (expE (k := 1) ha.out (by decide) h1.out _).mono ?_
  rintro e w12 ⟨rfl, hb1⟩
  replace hB := hB.trans (hb1.mono hB.size)
  clear hb1
  go_wp2_with fail
  refine (expE (k := 2305843009213688668) ha.out (by decide) hiv.out _).mono ?_
  rintro e w13 ⟨rfl, hb1⟩
  replace hB := hB.trans (hb1.mono hB.size)
  clear hb1
  go_wp2_with fail
  refine (invE ha.out hiv.out _).mono ?_
  rintro e w14 ⟨rfl, hb1⟩
  replace hB := hB.trans (hb1.mono hB.size)
  clear hb1
  go_wp2_with fail
  go_ret
  exact ⟨rfl, hB⟩

theorem groupPowers_int (m j k : Int) (vm : (Lit.int .u64 m).wf = true) (w : World) :
    Calls Try.prog 6 #[.int .u64 m, .int .i64 j, .int .i64 k] w fun e w' => e = .returned (.bool true) ∧ Below w.heap.size w w' := by
  obtain ⟨m, rfl, hm⟩ := u64_nat vm
  by_cases h1 : m % 4611686018427377339 = 0
  · exact powers_none m j k hm (.inl h1) w
  cases hj : Gp.isSc j
  · exact powers_none m j k hm (.inr (.inl hj)) w
  cases hk : Gp.isSc k
  · exact powers_none m j k hm (.inr (.inr hk)) w
  obtain ⟨j, rfl, gj⟩ := Gp.isSc_nat hj
  obtain ⟨k, rfl, gk⟩ := Gp.isSc_nat hk
  have ea := Gp.El.sq h1
  exact powers_core m (Gp.sq m) j k _ _ _ _ _ _ _ (Lib.hid fun w => element_yes m hm h1 w) (Lib.hid ea) (Lib.hid gj) (Lib.hid gk)
    (Lib.hid ⟨ea.pw j, rfl⟩) (Lib.hid ⟨ea.pw k, rfl⟩) (Lib.hid rfl) (Lib.hid rfl) (Lib.hid (Nat.mod_lt _ (by decide))) (Lib.hid (Gp.mu_lt (by decide)))
    (Lib.hid ⟨rfl, ea.expAdd j k⟩) (Lib.hid ⟨rfl, (ea.expMul j k).symm⟩) (Lib.hid (Gp.pw_zero (by decide))) (Lib.hid (Gp.pw_one ea.2.1)) (Lib.hid rfl) w
end Go.Proofs.Ytelikpkekloffaa
