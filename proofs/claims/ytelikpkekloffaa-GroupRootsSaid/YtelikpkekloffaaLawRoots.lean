/- The law GroupRoots, walked: whatever its arguments, it returns true. -/
import Derived.Test.YtelikpkekloffaaSane4
import Derived.Test.YtelikpkekloffaaElW
import Derived.Test.YtelikpkekloffaaElem
import Derived.Test.YtelikpkekloffaaRefG
import Derived.Test.YtelikpkekloffaaFieldP
namespace Go.Proofs.Ytelikpkekloffaa
open Go.RowKit

set_option maxRecDepth 100000 in
set_option maxHeartbeats 4000000 in
theorem roots_none (m n : Nat) (k : Int) (hm : m < 18446744073709551616) (hn : n < 18446744073709551616)
    (h : m % 4611686018427377339 = 0 ∨ n % 4611686018427377339 = 0 ∨ Gp.isSc k = false ∨ k = 0) (w : World) :
    Calls Try.prog 7 #[.int .u64 m, .int .u64 n, .int .i64 k] w fun e w' => e = .returned (.bool true) ∧ Below w.heap.size w w' := by
  have X0 := Lib.hid (fun w => sane4 w)
  have X1 := Lib.hid (fun w => element_any m hm w)
  have X2 := Lib.hid (fun w => element_any n hn w)
  have X3 := Lib.hid (fun w => isscalar_any k w)
  have key : (((Gp.sq m : Nat) : Int) != 0) = false ∨ ((((Gp.sq m : Nat) : Int) != 0) = true ∧ (((Gp.sq n : Nat) : Int) != 0) = false) ∨
      ((((Gp.sq m : Nat) : Int) != 0) = true ∧ (((Gp.sq n : Nat) : Int) != 0) = true ∧ Gp.isSc k = false) ∨
      ((((Gp.sq m : Nat) : Int) != 0) = true ∧ (((Gp.sq n : Nat) : Int) != 0) = true ∧ Gp.isSc k = true ∧ k = 0) := by
    cases hbm : (((Gp.sq m : Nat) : Int) != 0)
    · exact .inl rfl
    · cases hbn : (((Gp.sq n : Nat) : Int) != 0)
      · exact .inr (.inl ⟨rfl, rfl⟩)
      · cases hbk : Gp.isSc k
        · exact .inr (.inr (.inl ⟨rfl, rfl, rfl⟩))
        · rcases h with h | h | h | h
          · rw [Gp.sq_zero h] at hbm; exact absurd hbm (by decide)
          · rw [Gp.sq_zero h] at hbn; exact absurd hbn (by decide)
          · rw [h] at hbk; exact absurd hbk (by decide)
          · exact .inr (.inr (.inr ⟨rfl, rfl, rfl, h⟩))
  generalize (((Gp.sq m : Nat) : Int) != 0) = bm at *
  generalize (((Gp.sq n : Nat) : Int) != 0) = bn at *
  generalize Gp.sq m = a at *
  generalize Gp.sq n = b at *
  clear h hm hn
  rcases key with rfl | ⟨rfl, rfl⟩ | ⟨rfl, rfl, hk⟩ | ⟨rfl, rfl, hk, rfl⟩
  · clear X3
    go_enter Try.func7, Try.ntmps7
    go_wp2_with fail
    refine (X0.out _).mono ?_
    rintro e w1 ⟨rfl, hB⟩
    go_wp2_with fail
    refine (X1.out _).mono ?_
    rintro e w2 ⟨rfl, rfl⟩
    go_wp2_with fail
    refine (X2.out _).mono ?_
    rintro e w2 ⟨rfl, rfl⟩
    go_wp2_with fail
    go_ret
    exact ⟨rfl, hB⟩
  · clear X3
    go_enter Try.func7, Try.ntmps7
    go_wp2_with fail
    refine (X0.out _).mono ?_
    rintro e w1 ⟨rfl, hB⟩
    go_wp2_with fail
    refine (X1.out _).mono ?_
    rintro e w2 ⟨rfl, rfl⟩
    go_wp2_with fail
    refine (X2.out _).mono ?_
    rintro e w2 ⟨rfl, rfl⟩
    go_wp2_with fail
    go_ret
    exact ⟨rfl, hB⟩
  · rw [hk] at X3
    clear hk
    go_enter Try.func7, Try.ntmps7
    go_wp2_with fail
    refine (X0.out _).mono ?_
    rintro e w1 ⟨rfl, hB⟩
    go_wp2_with fail
    refine (X1.out _).mono ?_
    rintro e w2 ⟨rfl, rfl⟩
    go_wp2_with fail
    refine (X2.out _).mono ?_
    rintro e w2 ⟨rfl, rfl⟩
    go_wp2_with fail
    refine (X3.out _).mono ?_
    rintro e w2 ⟨rfl, rfl⟩
    go_wp2_with fail
    go_ret
    exact ⟨rfl, hB⟩
  · rw [hk] at X3
    clear hk
    go_enter Try.func7, Try.ntmps7
    go_wp2_with fail
    refine (X0.out _).mono ?_
    rintro e w1 ⟨rfl, hB⟩
    go_wp2_with fail
    refine (X1.out _).mono ?_
    rintro e w2 ⟨rfl, rfl⟩
    go_wp2_with fail
    refine (X2.out _).mono ?_
    rintro e w2 ⟨rfl, rfl⟩
    go_wp2_with fail
    refine (X3.out _).mono ?_
    rintro e w2 ⟨rfl, rfl⟩
    go_wp2_with fail
    go_ret
    exact ⟨rfl, hB⟩

set_option maxRecDepth 100000 in
set_option maxHeartbeats 4000000 in
theorem roots_core (m n a b k c p i : Nat)
    (X1 : Hid (∀ w, Calls Try.prog 19 #[.int .u64 m] w fun e w' => e = .returned (.tuple #[.int .i64 a, .bool true]) ∧ w' = w))
    (X2 : Hid (∀ w, Calls Try.prog 19 #[.int .u64 n] w fun e w' => e = .returned (.tuple #[.int .i64 b, .bool true]) ∧ w' = w))
    (ha : Hid (Gp.El a)) (hb : Hid (Gp.El b)) (hk0 : Hid (k ≠ 0)) (hk : Hid (k < 2305843009213688669))
    (hc : Hid (Gp.El c ∧ Gp.pw 4611686018427377339 a k = c)) (hp : Hid (Gp.pw 4611686018427377339 b k = p))
    (hi : Hid (i < 2305843009213688669 ∧ Gp.pw 2305843009213688669 k 2305843009213688667 = i)) (hd : Hid (Gp.pw 4611686018427377339 c i = a))
    (_t0 : ((k : Int) == 0) = false) (bb : Bool) (_t1 : ((c : Int) == (p : Int)) = bb) (_t2 : ((a : Int) == (b : Int)) = bb) (w : World) :
    Calls Try.prog 7 #[.int .u64 m, .int .u64 n, .int .i64 k] w fun e w' => e = .returned (.bool true) ∧ Below w.heap.size w w' := by
  have X0 := Lib.hid (fun w => sane4 w)
  have S1 : Hid (∀ w, Calls Try.prog 20 #[.int .i64 k] w fun e w' => e = .returned (.bool true) ∧ w' = w) := Lib.hid fun w => by
    have c := isscalar_any k w
    rw [Gp.isSc_of hk.out] at c
    exact c
  have I0 := Lib.hid fun w => finv_ok k hk0.out hk.out w
  rw [hi.out.2] at I0
  go_enter Try.func7, Try.ntmps7
  go_wp2_with fail
  refine (X0.out _).mono ?_
  rintro e w1 ⟨rfl, hB⟩
  go_wp2_with fail
  refine (X1.out _).mono ?_
  rintro e w2 ⟨rfl, rfl⟩
  go_wp2_with fail
  refine (X2.out _).mono ?_
  rintro e w2 ⟨rfl, rfl⟩
  go_wp2_with fail
  refine (S1.out _).mono ?_
  rintro e w2 ⟨rfl, rfl⟩
  go_wp2_with fail
  refine (I0.out _).mono ?_
  rintro e w3 ⟨rfl, hb1⟩
  replace hB := hB.trans (hb1.mono hB.size)
  clear hb1
  go_wp2_with fail
  refine (expE ha.out hk.out hc.out.2 _).mono ?_
  rintro e w4 ⟨rfl, hb1⟩
  replace hB := hB.trans (hb1.mono hB.size)
  clear hb1
  go_wp2_with fail
  refine (expE hc.out.1 hi.out.1 hd.out _).mono ?_
  rintro e w5 ⟨rfl, hb1⟩
  replace hB := hB.trans (hb1.mono hB.size)
  clear hb1
  go_wp2_with fail
  refine (expE hb.out hk.out hp.out _).mono ?_
  rintro e w6 ⟨rfl, hb1⟩
  replace hB := hB.trans (hb1.mono hB.size)
  clear hb1
  go_wp2_with fail
  go_ret
  exact ⟨rfl, hB⟩

theorem groupRoots_int (m n k : Int) (vm : (Lit.int .u64 m).wf = true) (vn : (Lit.int .u64 n).wf = true) (w : World) :
    Calls Try.prog 7 #[.int .u64 m, .int .u64 n, .int .i64 k] w fun e w' => e = .returned (.bool true) ∧ Below w.heap.size w w' := by
  obtain ⟨m, rfl, hm⟩ := u64_nat vm
  obtain ⟨n, rfl, hn⟩ := u64_nat vn
  by_cases h1 : m % 4611686018427377339 = 0
  · exact roots_none m n k hm hn (.inl h1) w
  by_cases h2 : n % 4611686018427377339 = 0
  · exact roots_none m n k hm hn (.inr (.inl h2)) w
  cases hk : Gp.isSc k
  · exact roots_none m n k hm hn (.inr (.inr (.inl hk))) w
  by_cases h3 : k = 0
  · exact roots_none m n k hm hn (.inr (.inr (.inr h3))) w
  obtain ⟨k, rfl, gk⟩ := Gp.isSc_nat hk
  have ea := Gp.El.sq h1
  have eb := Gp.El.sq h2
  have gk0 : k ≠ 0 := by omega
  have ra := ea.root gk0 gk
  have rb := eb.root gk0 gk
  refine roots_core m n (Gp.sq m) (Gp.sq n) k _ _ _ (Lib.hid fun w => element_yes m hm h1 w) (Lib.hid fun w => element_yes n hn h2 w) (Lib.hid ea) (Lib.hid eb) (Lib.hid gk0) (Lib.hid gk)
    (Lib.hid ⟨ea.pw k, rfl⟩) (Lib.hid rfl) (Lib.hid ⟨Gp.pw_lt (by decide), rfl⟩) (Lib.hid ra) (by rw [beq_eq_false_iff_ne]; omega) (((Gp.sq m : Nat) : Int) == ((Gp.sq n : Nat) : Int)) ?_ rfl w
  rw [Bool.eq_iff_iff, beq_iff_eq, beq_iff_eq]
  constructor
  · intro h
    have h' : Gp.pw 4611686018427377339 (Gp.sq m) k = Gp.pw 4611686018427377339 (Gp.sq n) k := by omega
    rw [h'] at ra
    rw [ra] at rb
    rw [rb]
  · intro h
    have h' : Gp.sq m = Gp.sq n := by omega
    rw [h']
end Go.Proofs.Ytelikpkekloffaa
