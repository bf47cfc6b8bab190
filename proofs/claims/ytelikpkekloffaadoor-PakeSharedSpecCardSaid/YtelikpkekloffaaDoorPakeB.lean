/- pake.Point of this program, walked. -/
import Derived.Test.YtelikpkekloffaaDoorPakeR
namespace Go.Proofs.YtelikpkekloffaaDoor
open Go.RowKit

/-- a role's name. -/
def nmOf (r : Nat) : ByteArray := if r = 1 then ⟨#[104, 111, 115, 116]⟩ else ⟨#[103, 117, 101, 115, 116]⟩
theorem nm_size (r : Nat) : (nmOf r).size ≤ 300 := by
  unfold nmOf
  by_cases h : r = 1
  · rw [if_pos h]; decide
  · rw [if_neg h]; decide
/-- what a side sends. -/
def ppOf (r c x : Nat) : Nat := Gp.mu 4611686018427377339 (Gp.pw 4611686018427377339 4 x) (maOf (nmOf r) c)
theorem ma_el (nm : ByteArray) (c : Nat) : Gp.El (maOf nm c) := (pt_el _ _ _).pw _
theorem pp_el (r c x : Nat) : Gp.El (ppOf r c x) := (Gp.el_four.pw x).mu (ma_el _ _)
/-- the function of a role in the map. -/
def fnOf (r : Nat) : Value := if r = 1 then .func (.func 92) #[] #[] else .func (.func 93) #[] #[]
theorem role_at (r : Nat) (hr : r = 1 ∨ r = 2) (w : World) (B : Nat) (h : w.heap[B]? = some (.map roleMap 2)) :
    Sem.run Tryd.prog (Instr.lookup 73 (.map (some B)) (.int .i64 (r : Int)) false) w = .ok (.agg #[.string (nmOf r), fnOf r]) w := by
  rcases hr with rfl | rfl
  · exact run_look w B 1 false (some (0, hostV)) _ h rfl (zero_role w)
  · exact run_look w B 2 false (some (1, guestV)) _ h rfl (zero_role w)
theorem ok_of {r c x : Nat} (hr : r = 1 ∨ r = 2) (hc : c < 1000000) (h1 : 1 ≤ x) (h2 : x < 2305843009213688669) : pChk (r : Int) (c : Int) (x : Int) = 0 := by
  refine pChk_ok ?_ (by omega) (by omega) (by omega) (by omega)
  rcases hr with rfl | rfl <;> decide
theorem ok_nat {r c x : Int} (h : okSide r c x = true) : ∃ a b d : Nat, r = (a : Int) ∧ c = (b : Int) ∧ x = (d : Int) ∧ (a = 1 ∨ a = 2) ∧ b < 1000000 ∧ 1 ≤ d ∧ d < 2305843009213688669 := by
  unfold okSide at h
  simp only [Bool.and_eq_true, Bool.or_eq_true, beq_iff_eq, decide_eq_true_eq] at h
  exact ⟨r.toNat, c.toNat, x.toNat, by omega, by omega, by omega, by omega, by omega, by omega, by omega⟩
theorem pChk_bad {r c x : Int} (h : okSide r c x = false) : pChk r c x = 100 := by unfold pChk; rw [h, if_neg (by decide)]

set_option maxHeartbeats 4000000 in
set_option maxRecDepth 100000 in
theorem ppoint_no (r c x : Int) (h : okSide r c x = false) (w : World) :
    Calls Tryd.prog 21 #[.agg #[.int .i64 r, .int .i64 c, .int .i64 x]] w fun e w' => e = .returned (.tuple #[.int .i64 0, .int .i64 100]) ∧ Below w.heap.size w w' := by
  have HC := Lib.hid (fun w => pcheck_any r c x w)
  rw [pChk_bad h] at HC
  clear h
  have hG := PG.first w r c x
  have hS := hG.all
  unfold PS at hS
  have HG := Lib.hid hG
  clear hG
  go_enter Tryd.func21, Tryd.ntmps21
  go_wp2_with fail
  refine (HC.out _).mono ?_
  rintro e w1 ⟨rfl, hb1⟩
  have hB := Lib.hid (HG.out.next hb1 (Nat.le_refl _)).below
  clear hb1 hS
  go_wp2_with fail
  go_ret2
  exact ⟨rfl, hB.out⟩

set_option maxHeartbeats 4000000 in
set_option maxRecDepth 100000 in
theorem ppoint_ok (r c x : Nat) (hr : r = 1 ∨ r = 2) (hc : c < 1000000) (h1 : 1 ≤ x) (h2 : x < 2305843009213688669) (w : World) (hT : Tabs w) :
    Calls Tryd.prog 21 #[.agg #[.int .i64 r, .int .i64 c, .int .i64 x]] w fun e w' => e = .returned (.tuple #[.int .i64 (ppOf r c x : Nat), .int .i64 0]) ∧ Below w.heap.size w w' := by
  have HC := Lib.hid (fun w => pcheck_any r c x w)
  rw [ok_of hr hc h1 h2] at HC
  have HR := Lib.hid (fun w => roles_some w)
  have HL := Lib.hid (fun w B h => role_at r hr w B h)
  have H4 := Lib.hid (fun w => baseE h2 rfl w)
  have HM := Lib.hid (fun (W : World) (hs : (W.cell? ⟨w.heap.size, 0, none⟩ = some (.int .i64 (r : Int)) ∧ W.cell? ⟨w.heap.size, 1, none⟩ = some (.int .i64 (c : Int)) ∧ W.cell? ⟨w.heap.size, 2, none⟩ = some (.int .i64 (x : Int))) ∧ PG w.heap.size w r c x W) =>
    masked_any (nmOf r) (fnOf r) c (by omega) (nm_size r) W (hT.below hs.2.below))
  have H5 := Lib.hid (fun w => mulE (Gp.el_four.pw x) (ma_el (nmOf r) c) (r := ppOf r c x) rfl w)
  obtain ⟨z, hz⟩ : ∃ z, z = ppOf r c x := ⟨_, rfl⟩
  rw [← hz] at H5
  have HZ := Lib.hid hz
  generalize Gp.pw 4611686018427377339 4 x = p4 at *
  generalize maOf (nmOf r) c = ma at *
  generalize nmOf r = nm at *
  generalize fnOf r = fv at *
  clear hr hc h1 h2 hT hz
  have hG := PG.first w r c x
  have hS := hG.all
  unfold PS at hS
  have HG := Lib.hid hG
  clear hG
  go_enter Tryd.func21, Tryd.ntmps21
  go_wp2_with fail
  refine (HC.out _).mono ?_
  rintro e w1 ⟨rfl, hb1⟩
  have hG1 := HG.out.next hb1 (Nat.le_refl _)
  clear hb1 hS
  have hS := hG1.all
  unfold PS at hS
  go_wp2_with fail
  refine (H4.out _).mono ?_
  rintro e w2 ⟨rfl, hb1⟩
  have hG2 := hG1.next hb1 (Nat.le_refl _)
  clear hb1 hS hG1 HG HC H4
  have hS := hG2.all
  unfold PS at hS
  go_wp2_with fail
  go_region_held3 (fun w' => (w'.cell? ⟨w.heap.size, 0, none⟩ = some (.int .i64 (r : Int)) ∧ w'.cell? ⟨w.heap.size, 1, none⟩ = some (.int .i64 (c : Int)) ∧ w'.cell? ⟨w.heap.size, 2, none⟩ = some (.int .i64 (x : Int))) ∧ PG w.heap.size w r c x w')
    (first
      | assumption
      | (refine PG.steps ?_ (Below.refl _ _).drew (Nat.le_refl _); assumption)
      | (refine PG.steps ?_ hb1 (Nat.le_refl _); assumption))
    (first
      | (go_at_call 62; refine (HR.out _).mono ?_; rintro e w' ⟨Bm, rfl, hmap, hb1⟩; have hl1 := HL.out _ _ hmap)
      | (go_at_call 61; with_reducible refine (HM.out _ (by assumption)).mono ?_; rintro e w' ⟨rfl, hb1⟩)
      | (go_at_call 26; with_reducible refine (H5.out _).mono ?_; rintro e w' ⟨rfl, hb1⟩))
  rename_i hH
  have hB := Lib.hid hH.2.below
  clear hH hS hG2 hl1 hmap HR HL HM H5
  go_wp2_with fail
  go_ret2
  exact ⟨by rw [HZ.out]; rfl, hB.out⟩
end Go.Proofs.YtelikpkekloffaaDoor
