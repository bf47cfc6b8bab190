/- What the rows' readings give the walks: a signature (a struct of two numbers) that came in. -/
import Derived.Test.YtelikpkekloffaaDoorOpenD
import Derived.Lib.SmallJoins
namespace Go.Proofs.YtelikpkekloffaaDoor
open Go.ChangeShapes Go.WideShapes Go.ChangeAt Go.RowKit Go.Joins Go.Deep

theorem cSig : Tryd.prog.cellsOf 61 = 2 := by kernel_rfl
theorem oneSig : oneCellFields Tryd.prog #[{ name := "R", type := 3, offset := 0, embedded := false, tag := "", pkgPath := "", byteOffset := 0 }, { name := "S", type := 3, offset := 1, embedded := false, tag := "", pkgPath := "", byteOffset := 8 }] = true := by kernel_rfl
set_option maxRecDepth 100000 in
theorem open_sig {H : Type} {enc : TypeId × Value → H} {W : World} {base : Nat} {r : Reach} {b0 : Nat} {spare : Nat → Bool} {held : Bool} {v : Value} {d : DataW H} {ps : List MemPlace}
    (hv : Value.okWide Tryd.prog W r b0 61 v) (h : DataW.Trod enc Tryd.prog W base spare held 61 v d ps) : ∃ R S : Int, v = .agg #[.int .i64 R, .int .i64 S] := by
  obtain ⟨v0, v1, y0, y1, n, rfl, rfl, rfl, h0, h1⟩ := open_agg2 Tryd.underlying61 oneSig cSig hv h
  obtain ⟨R, e0, _, _⟩ := DataW.trod_int Tryd.underlying3 h0
  obtain ⟨S, e1, _, _⟩ := DataW.trod_int Tryd.underlying3 h1
  simp at e0 e1
  exact ⟨R, S, by rw [e0, e1]⟩
theorem cSide : Tryd.prog.cellsOf 24 = 3 := by kernel_rfl
theorem oneSide : oneCellFields Tryd.prog #[{ name := "Role", type := 3, offset := 0, embedded := false, tag := "", pkgPath := "", byteOffset := 0 }, { name := "Code", type := 3, offset := 1, embedded := false, tag := "", pkgPath := "", byteOffset := 8 }, { name := "Secret", type := 3, offset := 2, embedded := false, tag := "", pkgPath := "", byteOffset := 16 }] = true := by kernel_rfl
set_option maxRecDepth 100000 in
theorem open_side {H : Type} {enc : TypeId × Value → H} {W : World} {base : Nat} {r : Reach} {b0 : Nat} {spare : Nat → Bool} {held : Bool} {v : Value} {d : DataW H} {ps : List MemPlace}
    (hv : Value.okWide Tryd.prog W r b0 24 v) (h : DataW.Trod enc Tryd.prog W base spare held 24 v d ps) :
    ∃ x y z : Int, v = .agg #[.int .i64 x, .int .i64 y, .int .i64 z] ∧ (Lit.int .i64 x).wf = true := by
  obtain ⟨v0, v1, v2, y0, y1, y2, n, rfl, rfl, rfl, h0, h1, h2⟩ := open_agg3 Tryd.underlying24 oneSide cSide hv h
  obtain ⟨x, e0, _, w0⟩ := DataW.trod_int Tryd.underlying3 h0
  obtain ⟨y, e1, _, _⟩ := DataW.trod_int Tryd.underlying3 h1
  obtain ⟨z, e2, _, _⟩ := DataW.trod_int Tryd.underlying3 h2
  simp at e0 e1 e2
  exact ⟨x, y, z, by rw [e0, e1, e2], w0⟩

/-- the number in a cell. -/
def numOf : Option Value → Nat
  | some (.int _ n) => n.toNat
  | _ => 0
theorem cByte : Tryd.prog.cellsOf 5 = 1 := by kernel_rfl
theorem cDig : Tryd.prog.cellsOf 44 = 32 := by kernel_rfl
set_option maxRecDepth 100000 in
theorem open_digest {H : Type} {enc : TypeId × Value → H} {W : World} {base : Nat} {r : Reach} {b0 : Nat} {spare : Nat → Bool} {held : Bool} {v : Value} {d : DataW H} {ps : List MemPlace}
    (hv : Value.okWide Tryd.prog W r b0 44 v) (h : DataW.Trod enc Tryd.prog W base spare held 44 v d ps) :
    ∃ g : Nat → Nat, (∀ i, i < 32 → g i < 256) ∧ v = d32 g := by
  simp only [Value.okWide, under32] at hv
  obtain ⟨cs, rfl, hsz, _⟩ := hv
  rw [cDig] at hsz
  obtain ⟨fuel, hf⟩ := h
  obtain ⟨xs, m, _, _, _, hxl, hx⟩ := DataW.trod_array under32 hf
  have hc : ∀ i, i < 32 → ∃ a : Int, cs[i]? = some (.int .u8 a) ∧ 0 ≤ a ∧ a < 256 := fun i hi => by
    have h1 := hx i hi
    rw [List.getElem?_eq_getElem (by omega)] at h1
    obtain ⟨a, ea, _, wa⟩ := DataW.trod_int under_byte h1
    have hi' : i < cs.size := by omega
    rw [cByte, Nat.mul_one, List.take_one, List.head?_drop] at ea
    have e2 : (Value.agg cs).cells.toList[i]? = some cs[i] := by simp [Value.cells, hi']
    rw [e2] at ea
    have e3 : cs[i] = .int .u8 a := by simpa using ea
    refine ⟨a, by rw [Array.getElem?_eq_getElem hi', e3], ?_⟩
    simp [Lit.wf, show IntKind.u8.min = 0 from rfl, show IntKind.u8.max = 255 from rfl] at wa
    omega
  refine ⟨fun i => numOf cs[i]?, fun i hi => ?_, ?_⟩
  · obtain ⟨a, ea, h0, h1⟩ := hc i hi
    show numOf cs[i]? < 256
    rw [ea]
    show a.toNat < 256
    omega
  · unfold d32
    congr 1
    apply Array.ext
    · rw [c32_size]; exact hsz
    · intro i h1 h2
      obtain ⟨a, ea, h0, h3⟩ := hc i (by omega)
      have e4 : (c32 fun i => numOf cs[i]?).toArray[i]? = some (.int .u8 ((numOf cs[i]? : Nat) : Int)) := by
        rw [List.getElem?_toArray]; exact c32_get _ i (by omega)
      rw [Array.getElem?_eq_getElem h2, ea] at e4
      rw [Array.getElem?_eq_getElem h1] at ea
      have e5 := Option.some.inj e4
      have e6 := Option.some.inj ea
      rw [e5, e6]
      show Value.int .u8 a = Value.int .u8 ((a.toNat : Nat) : Int)
      rw [Int.toNat_of_nonneg h0]
end Go.Proofs.YtelikpkekloffaaDoor
