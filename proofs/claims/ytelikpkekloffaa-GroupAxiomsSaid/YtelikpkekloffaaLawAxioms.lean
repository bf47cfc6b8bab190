/- The law GroupAxioms, walked: whatever its arguments, it returns true. -/
import Derived.Test.YtelikpkekloffaaSane4
import Derived.Test.YtelikpkekloffaaElW
import Derived.Test.YtelikpkekloffaaElem
namespace Go.Proofs.Ytelikpkekloffaa
open Go.RowKit

set_option maxRecDepth 100000 in
set_option maxHeartbeats 4000000 in
theorem axioms_none (m n o : Nat) (hm : m < 18446744073709551616) (hn : n < 18446744073709551616) (ho : o < 18446744073709551616)
    (h : m % 4611686018427377339 = 0 ∨ n % 4611686018427377339 = 0 ∨ o % 4611686018427377339 = 0) (w : World) :
    Calls Try.prog 4 #[.int .u64 m, .int .u64 n, .int .u64 o] w fun e w' => e = .returned (.bool true) ∧ Below w.heap.size w w' := by
  have X0 := Lib.hid (fun w => sane4 w)
  have X1 := Lib.hid (fun w => element_any m hm w)
  have X2 := Lib.hid (fun w => element_any n hn w)
  have X3 := Lib.hid (fun w => element_any o ho w)
  have key : (((Gp.sq m : Nat) : Int) != 0) = false ∨ ((((Gp.sq m : Nat) : Int) != 0) = true ∧ (((Gp.sq n : Nat) : Int) != 0) = false) ∨ ((((Gp.sq m : Nat) : Int) != 0) = true ∧ (((Gp.sq n : Nat) : Int) != 0) = true ∧ (((Gp.sq o : Nat) : Int) != 0) = false) := by
    rcases h with h | h | h
    · rw [Gp.sq_zero h]; exact .inl rfl
    · rw [Gp.sq_zero h]
      cases (((Gp.sq m : Nat) : Int) != 0)
      · exact .inl rfl
      · exact .inr (.inl ⟨rfl, rfl⟩)
    · rw [Gp.sq_zero h]
      cases (((Gp.sq m : Nat) : Int) != 0)
      · exact .inl rfl
      · cases (((Gp.sq n : Nat) : Int) != 0)
        · exact .inr (.inl ⟨rfl, rfl⟩)
        · exact .inr (.inr ⟨rfl, rfl, rfl⟩)
  generalize (((Gp.sq m : Nat) : Int) != 0) = bm at *
  generalize (((Gp.sq n : Nat) : Int) != 0) = bn at *
  generalize (((Gp.sq o : Nat) : Int) != 0) = bo at *
  generalize Gp.sq m = a at *
  generalize Gp.sq n = b at *
  generalize Gp.sq o = c at *
  clear h hm hn ho
  rcases key with rfl | ⟨rfl, rfl⟩ | ⟨rfl, rfl, rfl⟩
  all_goals
    go_enter Try.func4, Try.ntmps4
    go_wp2_with fail
    refine (X0.out _).mono ?_
    rintro e w1 ⟨rfl, hB⟩
    go_wp2_with fail
    refine (X1.out _).mono ?_
    rintro e w2 ⟨rfl, rfl⟩
    go_wp2_with fail
    refine (X2.out _).mono ?_
    rintro e w2 ⟨rfl, rfl⟩
    go_wp2_with fail
    refine (X3.out _).mono ?_
    rintro e w2 ⟨rfl, rfl⟩
    go_wp2_with fail
    go_ret
    exact ⟨rfl, hB⟩

set_option maxRecDepth 100000 in
set_option maxHeartbeats 4000000 in
theorem axioms_core (m n o a b c ab bc l iv : Nat)
    (X1 : Hid (∀ w, Calls Try.prog 19 #[.int .u64 m] w fun e w' => e = .returned (.tuple #[.int .i64 a, .bool true]) ∧ w' = w))
    (X2 : Hid (∀ w, Calls Try.prog 19 #[.int .u64 n] w fun e w' => e = .returned (.tuple #[.int .i64 b, .bool true]) ∧ w' = w))
    (X3 : Hid (∀ w, Calls Try.prog 19 #[.int .u64 o] w fun e w' => e = .returned (.tuple #[.int .i64 c, .bool true]) ∧ w' = w))
    (ha : Hid (Gp.El a)) (hb : Hid (Gp.El b)) (hc : Hid (Gp.El c)) (hab : Hid (Gp.El ab ∧ Gp.mu 4611686018427377339 a b = ab)) (hbc : Hid (Gp.El bc ∧ Gp.mu 4611686018427377339 b c = bc))
    (hl : Hid (Gp.mu 4611686018427377339 ab c = l ∧ Gp.mu 4611686018427377339 a bc = l)) (hiv : Hid (Gp.El iv ∧ Gp.pw 4611686018427377339 a 2305843009213688668 = iv ∧ Gp.mu 4611686018427377339 a iv = 1))
    (hba : Hid (Gp.mu 4611686018427377339 b a = ab)) (h1 : Hid (Gp.mu 4611686018427377339 a 1 = a)) (t1 : decide (1 ≤ (ab : Int)) = true) (_t1' : decide (1 ≤ ab) = true) (t2 : decide ((ab : Int) < 4611686018427377339) = true) (w : World) :
    Calls Try.prog 4 #[.int .u64 m, .int .u64 n, .int .u64 o] w fun e w' => e = .returned (.bool true) ∧ Below w.heap.size w w' := by
  have X0 := Lib.hid (fun w => sane4 w)
  go_enter Try.func4, Try.ntmps4
  go_wp2_with fail
  refine (X0.out _).mono ?_
  rintro e w1 ⟨rfl, hB⟩
  go_wp2_with fail
  refine (X1.out _).mono ?_
  rintro e w2 ⟨rfl, rfl⟩
  go_wp2_with fail
  refine (X2.out _).mono ?_
  rintro e w2 ⟨rfl, rfl⟩
  go_wp2_with fail
  refine (X3.out _).mono ?_
  rintro e w2 ⟨rfl, rfl⟩
  go_wp2_with fail
  refine (mulE ha.out hb.out hab.out.2 _).mono ?_
  rintro e w3 ⟨rfl, hb1⟩
  replace hB := hB.trans (hb1.mono hB.size)
  clear hb1
  go_wp2_with fail
  refine (mulE hb.out ha.out hba.out _).mono ?_
  rintro e w4 ⟨rfl, hb1⟩
  replace hB := hB.trans (hb1.mono hB.size)
  clear hb1
  go_wp2_with fail
  refine (mulE hb.out hc.out hbc.out.2 _).mono ?_
  rintro e w5 ⟨rfl, hb1⟩
  replace hB := hB.trans (hb1.mono hB.size)
  clear hb1
  go_wp2_with fail
  refine (mulE hab.out.1 hc.out hl.out.1 _).mono ?_
  rintro e w6 ⟨rfl, hb1⟩
  replace hB := hB.trans (hb1.mono hB.size)
  clear hb1
  go_wp2_with fail
  refine (mulE ha.out hbc.out.1 hl.out.2 _).mono ?_
  rintro e w7 ⟨rfl, hb1⟩
  replace hB := hB.trans (hb1.mono hB.size)
  clear hb1
  go_wp2_with fail
  refine (mulE ha.out Gp.el_one h1.out _).mono ?_
  rintro e w8 ⟨rfl, hb1⟩
  replace hB := hB.trans (hb1.mono hB.size)
  clear hb1
  go_wp2_with fail
  refine (invE ha.out hiv.out.2.1 _).mono ?_
  rintro e w9 ⟨rfl, hb1⟩
  replace hB := hB.trans (hb1.mono hB.size)
  clear hb1
  go_wp2_with fail
  refine (mulE ha.out hiv.out.1 hiv.out.2.2 _).mono ?_
  rintro e w10 ⟨rfl, hb1⟩
  replace hB := hB.trans (hb1.mono hB.size)
  clear hb1
  go_wp2_with fail
  refine (checkE hab.out.1 _).mono ?_
  rintro e w11 ⟨rfl, hb1⟩
  replace hB := hB.trans (hb1.mono hB.size)
  clear hb1
  go_wp2_with fail
  refine (checkE hiv.out.1 _).mono ?_
  rintro e w12 ⟨rfl, hb1⟩
  replace hB := hB.trans (hb1.mono hB.size)
  clear hb1
  go_wp2_with fail
  go_ret
  exact ⟨rfl, hB⟩

theorem groupAxioms_walk (m n o : Nat) (hm : m < 18446744073709551616) (hn : n < 18446744073709551616) (ho : o < 18446744073709551616) (w : World) :
    Calls Try.prog 4 #[.int .u64 m, .int .u64 n, .int .u64 o] w fun e w' => e = .returned (.bool true) ∧ Below w.heap.size w w' := by
  by_cases h1 : m % 4611686018427377339 = 0
  · exact axioms_none m n o hm hn ho (.inl h1) w
  by_cases h2 : n % 4611686018427377339 = 0
  · exact axioms_none m n o hm hn ho (.inr (.inl h2)) w
  by_cases h3 : o % 4611686018427377339 = 0
  · exact axioms_none m n o hm hn ho (.inr (.inr h3)) w
  have ea := Gp.El.sq h1
  have eb := Gp.El.sq h2
  have ec := Gp.El.sq h3
  have hab := ea.mu eb
  refine axioms_core m n o (Gp.sq m) (Gp.sq n) (Gp.sq o) _ _ _ _ (Lib.hid fun w => element_yes m hm h1 w) (Lib.hid fun w => element_yes n hn h2 w) (Lib.hid fun w => element_yes o ho h3 w)
    (Lib.hid ea) (Lib.hid eb) (Lib.hid ec) (Lib.hid ⟨hab, rfl⟩) (Lib.hid ⟨eb.mu ec, rfl⟩) (Lib.hid ⟨rfl, (Gp.mu_assoc _ _ _ _).symm⟩) (Lib.hid ⟨ea.pw _, rfl, ea.inv⟩)
    (Lib.hid (Gp.mu_comm _ _ _)) (Lib.hid (Gp.mu_one ea.2.1)) ?_ ?_ ?_ w
  · rw [decide_eq_true_eq]; have := hab.1; omega
  · rw [decide_eq_true_eq]; exact hab.1
  · rw [decide_eq_true_eq]; have := hab.2.1; omega

theorem groupAxioms_int (m n o : Int) (vm : (Lit.int .u64 m).wf = true) (vn : (Lit.int .u64 n).wf = true) (vo : (Lit.int .u64 o).wf = true) (w : World) :
    Calls Try.prog 4 #[.int .u64 m, .int .u64 n, .int .u64 o] w fun e w' => e = .returned (.bool true) ∧ Below w.heap.size w w' := by
  obtain ⟨m, rfl, hm⟩ := u64_nat vm
  obtain ⟨n, rfl, hn⟩ := u64_nat vn
  obtain ⟨o, rfl, ho⟩ := u64_nat vo
  exact groupAxioms_walk m n o hm hn ho w
end Go.Proofs.Ytelikpkekloffaa
