/- math/bits.Len of this program, walked (the shelf's proof, at this program's numbers): it returns the number of bits. -/
import Derived.Test.YtelikpkekloffaaLen64
namespace Go.Proofs.Ytelikpkekloffaa

theorem len_any (x : Int) (w : World) (h0 : 0 ≤ x) (h1 : x ≤ 18446744073709551615) :
    Calls Try.prog 45 #[.int .u64 x] w fun e w' => e = .returned (.int .i64 (Lib.bitLen x.toNat)) ∧ w' = w := by
  go_enter Try.func45, Try.ntmps45
  go_wp2_with (go_at_call 42; refine (len64_any x _ h0 h1).mono ?_; rintro e w' ⟨rfl, rfl⟩)
  go_ret
  exact ⟨rfl, rfl⟩

end Go.Proofs.Ytelikpkekloffaa
