/- What the rows' readings give the walks: a signature (a struct of two numbers) that came in. -/
import Derived.Test.YtelikpkekloffaaDoorOpenD
import Derived.Lib.SmallJoins
namespace Go.Proofs.YtelikpkekloffaaDoor
open Go.ChangeShapes Go.WideShapes Go.ChangeAt Go.RowKit Go.Joins Go.Deep

theorem cSig : Tryd.prog.cellsOf 61 = 2 := by kernel_rfl
theorem oneSig : oneCellFields Tryd.prog #[{ name := "R", type := 3, offset := 0, embedded := false, tag := "", pkgPath := "", byteOffset := 0 }, { name := "S", type := 3, offset := 1, embedded := false, tag := "", pkgPath := "", byteOffset := 8 }] = true := by kernel_rfl
set_option maxRecDepth 100000 in
theorem open_sig {H : Type} {enc : TypeId × Value → H} {W : World} {base : Nat} {r : Reach} {b0 : Nat} {spare : Nat → Bool} {held : Bool} {v : Value} {d : DataW H} {ps : List MemPlace}
    (hv : Value.okWide Tryd.prog W r b0 61 v) (h : DataW.Trod enc Tryd.prog W base spare held 61 v d ps) : ∃ R S : Int, v = .agg #[.int .i64 R, .int .i64 S] := by
  obtain ⟨v0, v1, y0, y1, n, rfl, rfl, rfl, h0, h1⟩ := open_agg2 Tryd.underlying61 oneSig cSig hv h
  obtain ⟨R, e0, _, _⟩ := DataW.trod_int Tryd.underlying3 h0
  obtain ⟨S, e1, _, _⟩ := DataW.trod_int Tryd.underlying3 h1
  simp at e0 e1
  exact ⟨R, S, by rw [e0, e1]⟩
end Go.Proofs.YtelikpkekloffaaDoor
