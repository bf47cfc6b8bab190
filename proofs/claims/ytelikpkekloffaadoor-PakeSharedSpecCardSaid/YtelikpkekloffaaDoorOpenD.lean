/- What the rows' readings give the walks: the two listed tables; a slice of bytes that came in. -/
import Derived.Test.YtelikpkekloffaaDoorDigD
import Derived.ProofKit
import Derived.OpenShut
import Derived.SizedLaws
import Derived.LaidMore
import Derived.Stop.Joined
import Derived.Lib.LaidTab
import Derived.Deep.DeepHandedRow
namespace Go.Proofs.YtelikpkekloffaaDoor
open Go.ChangeShapes Go.WideShapes Go.ChangeAt Go.RowKit

def startL : List Int := [1779033703, 3144134277, 1013904242, 2773480762, 1359893119, 2600822924, 528734635, 1541459225]
def numbersL : List Int := Sha.table.map fun (n : Nat) => (n : Int)
theorem gStart : Tryd.prog.globalNamed "chartroom/digest.start" = some 0 := by kernel_rfl
theorem gNumbers : Tryd.prog.globalNamed "chartroom/digest.numbers" = some 3 := by kernel_rfl
theorem tStart : (Tryd.prog.globals[0]?).map (·.type) = some 102 := by kernel_rfl
theorem tNumbers : (Tryd.prog.globals[3]?).map (·.type) = some 116 := by kernel_rfl
theorem uStart : Tryd.prog.underlying 102 = some (.array 8 101) := by kernel_rfl
theorem uNumbers : Tryd.prog.underlying 116 = some (.array 64 101) := by kernel_rfl
theorem uU32 : Tryd.prog.underlying 101 = some (.int .u32) := by kernel_rfl
theorem cU32 : Tryd.prog.cellsOf 101 = 1 := by kernel_rfl
theorem cStart : Tryd.prog.cellsOf 102 = 8 := by kernel_rfl
theorem cNumbers : Tryd.prog.cellsOf 116 = 64 := by kernel_rfl

def laidTwo : List (String × DataW Unit) := [("chartroom/digest.start", Rows.laid_chartroom_digest_start), ("chartroom/digest.numbers", Rows.laid_chartroom_digest_numbers)]
theorem laid_eq1 : (Rows.laid_chartroom_digest_start : DataW Unit) = Lib.tabData .u32 startL := rfl
theorem laid_eq2 : (Rows.laid_chartroom_digest_numbers : DataW Unit) = Lib.tabData .u32 numbersL := rfl

theorem tabs_of {W : World} (h : laidMetH Tryd.prog laidTwo W) : Tabs W := by
  rw [MakeChecks.laidMetH_plain _ _ _ (by kernel_rfl)] at h
  obtain ⟨ps, ⟨g0, t0, cs0, f0, p0, q0, hg0, ht0, hv0, hd0, ⟨g1, t1, cs1, f1, p1, q1, hg1, ht1, hv1, hd1, _, _⟩, _⟩, _, _⟩ := h
  obtain rfl := Option.some.inj (gStart.symm.trans hg0)
  obtain rfl := Option.some.inj (gNumbers.symm.trans hg1)
  obtain rfl := Option.some.inj (tStart.symm.trans ht0)
  obtain rfl := Option.some.inj (tNumbers.symm.trans ht1)
  rw [laid_eq1] at hd0
  rw [laid_eq2] at hd1
  have h0 : Lib.TabIs Tryd.prog W "chartroom/digest.start" .u32 startL := by unfold Lib.TabIs; rw [hv0, ← Lib.cells_of_tab uStart uU32 cU32 cStart hd0]
  have h1 : Lib.TabIs Tryd.prog W "chartroom/digest.numbers" .u32 numbersL := by unfold Lib.TabIs; rw [hv1, ← Lib.cells_of_tab uNumbers uU32 cU32 cNumbers hd1]
  have k1 : Reads W 3 0 64 .u32 (fun i => (Sha.kk i : Int)) := fun i hi => by
    have h2 := h1.cell gNumbers i hi
    rw [Nat.zero_add, h2]
    have all : ∀ j : Fin 64, numbersL.getD j.val 0 = (Sha.kk j.val : Int) := by decide +kernel
    rw [all ⟨i, hi⟩]
  have k0 : Reads W 0 0 8 .u32 (fun i => (Sha.iv.get i : Int)) := fun i hi => by
    have h2 := h0.cell gStart i hi
    rw [Nat.zero_add, h2]
    have all : ∀ j : Fin 8, startL.getD j.val 0 = (Sha.iv.get j.val : Int) := by decide +kernel
    rw [all ⟨i, hi⟩]
  refine ⟨k0, k1, ?_⟩
  exact World.block_lt_of_cell? W ⟨3, 0, none⟩ (k1 0 (by decide))

/-- a slice of bytes that came in: bytes; and its datum's length is its capacity. -/
theorem open_bytes {H : Type} {enc : TypeId × Value → H} {W : World} {base : Nat} {held : Bool} {a : Option Addr} {len cap : Nat} {d : DataW H} {ps : List MemPlace}
    (h : DataW.Trod enc Tryd.prog W base (fun _ => true) held 33 (.slice a len cap) d ps) :
    ∃ f, Bytes W a len cap f ∧ (cap = 0 ∨ ∃ el sp, d = .slice el sp ∧ el.length + sp.length = cap) := by
  obtain ⟨fuel, hf⟩ := h
  rcases open_ints Tryd.underlying33 under_byte (by kernel_rfl) hf with ⟨hcs, _⟩ | ⟨x, l, c, zs, hcs, _, hl, hm, hz, hx, hcell, hwz⟩
  · simp [Value.cells] at hcs
    obtain ⟨rfl, rfl, rfl⟩ := hcs
    exact ⟨fun _ => 0, ⟨fun h => absurd h (by omega), fun i hi => absurd hi (by omega), Nat.le_refl _, fun _ => rfl⟩, .inl rfl⟩
  · simp [Value.cells] at hcs
    obtain ⟨rfl, rfl, rfl⟩ := hcs
    simp only [if_true] at hz
    have hw : ∀ i, i < zs.length → 0 ≤ zs.getD i 0 ∧ zs.getD i 0 < 256 := fun i hi => by
      have h1 := hwz (zs.getD i 0) (by rw [List.getD_eq_getElem?_getD, List.getElem?_eq_getElem hi]; exact List.getElem_mem hi)
      generalize zs.getD i 0 = z at h1 ⊢
      simp [Lit.wf, show IntKind.u8.min = 0 from rfl, show IntKind.u8.max = 255 from rfl] at h1
      omega
    refine ⟨fun i => (zs.getD i 0).toNat, ⟨fun h0 => ?_, fun i hi => ?_, hl, fun e => by cases e⟩, .inr ⟨lits .u8 (zs.take len), lits .u8 (zs.drop len), ?_, ?_⟩⟩
    · obtain ⟨b, off, spot⟩ := x
      have hspot : spot = none := by simpa [Addr.add] using World.cell?_spot (hcell 0 (by omega))
      subst hspot
      refine ⟨b, off, rfl, ?_, fun i hi => ?_⟩
      · have := World.block_lt_of_cell? W _ (hcell 0 (by omega))
        rw [Addr.add_mid] at this
        exact this
      · have h2 := hcell i (by omega)
        rw [Addr.add_mid] at h2
        rw [h2]
        have := hw i (by omega)
        show some (Value.int .u8 (zs.getD i 0)) = some (Value.int .u8 (((zs.getD i 0).toNat : Nat) : Int))
        rw [Int.toNat_of_nonneg this.1]
    · have := hw i (by omega)
      show (zs.getD i 0).toNat < 256
      omega
    · exact congrArg Prod.fst hx
    · simp [lits]; omega

theorem str_bound {H : Type} {ts : List TypeId} {ds : List (DataW H)} (h : (DataW.weightsEach Tryd.prog ts ds).all (· ≤ reachBytes) = true) (j : Nat) {t : TypeId} {s : ByteArray} (ht : ts[j]? = some t) (hd : ds[j]? = some (.lit (.string s.data.toList))) : s.size ≤ 140737488351232 := by
  have h1 := sized_string h ht hd
  have e : reachBytes = 140737488351232 := rfl
  have e2 : s.data.toList.length = s.size := Array.length_toList
  omega
theorem bytes8 : Tryd.prog.bytesOf 5 = 1 := by kernel_rfl
theorem bytes_bound {H : Type} {ts : List TypeId} {ds : List (DataW H)} (h : (DataW.weightsEach Tryd.prog ts ds).all (· ≤ reachBytes) = true) (j : Nat) {cap : Nat} {d : DataW H} (ht : ts[j]? = some 33) (hd : ds[j]? = some d)
    (l : cap = 0 ∨ ∃ el sp, d = .slice el sp ∧ el.length + sp.length = cap) : cap ≤ 140737488351232 := by
  rcases l with rfl | ⟨el, sp, rfl, hl⟩
  · omega
  · have h1 := sized_slice h ht hd Tryd.underlying33
    have e : reachBytes = 140737488351232 := rfl
    rw [bytes8] at h1
    omega
theorem laid_met (os : Os) (args : Array Value) : laidMet Tryd.prog laidTwo ((World.doorLaid Tryd.prog 600 os).forCall (fun _ _ => 0) ⟨#[], args, []⟩).memory :=
  laidMet_of_run' 8 (by kernel_rfl) (by kernel_rfl)
theorem laid_metH (os : Os) (args : Array Value) : laidMetH Tryd.prog laidTwo ((World.doorLaid Tryd.prog 600 os).forCall (fun _ _ => 0) ⟨#[], args, []⟩).memory := by
  rw [MakeChecks.laidMetH_plain _ _ _ (by kernel_rfl)]
  exact laid_met os args
end Go.Proofs.YtelikpkekloffaaDoor
