/- The law PakePointSpec, walked: whatever its arguments, it returns true. -/
import Derived.Test.YtelikpkekloffaaDoorSane10
import Derived.Test.YtelikpkekloffaaDoorRef10
namespace Go.Proofs.YtelikpkekloffaaDoor
open Go.RowKit

/-- what a region reads of one side, and what stands. -/
theorem Hold.one {w W W' : World} {L : List (World → Prop)} {B b : Nat} {r c x : Int} (h : (W.cell? ⟨B, 0, none⟩ = some (.int .i64 r) ∧ W.cell? ⟨B, 1, none⟩ = some (.int .i64 c) ∧ W.cell? ⟨B, 2, none⟩ = some (.int .i64 x)) ∧ Hold w L W) (hm : SideC B r c x ∈ L) (hb : Below b W W') (hD : W.heap.size ≤ b) :
    (W'.cell? ⟨B, 0, none⟩ = some (.int .i64 r) ∧ W'.cell? ⟨B, 1, none⟩ = some (.int .i64 c) ∧ W'.cell? ⟨B, 2, none⟩ = some (.int .i64 x)) ∧ Hold w L W' := by
  have h2 := h.2.next hb hD
  exact ⟨h2.side hm, h2⟩

set_option maxRecDepth 100000 in
set_option maxHeartbeats 4000000 in
theorem pt_gen (r c x v f p : Int) (w : World) (hT : Tabs w)
    (hp1 : ∀ W, Below w.heap.size w W → Calls Tryd.prog 21 #[.agg #[.int .i64 r, .int .i64 c, .int .i64 x]] W fun e w' => e = .returned (.tuple #[.int .i64 v, .int .i64 f]) ∧ Below W.heap.size W w')
    (hp2 : ∀ W, Calls Tryd.prog 40 #[.agg #[.int .i64 r, .int .i64 c, .int .i64 x]] W fun e w' => e = .returned (.tuple #[.int .i64 v, .int .i64 f]) ∧ Below W.heap.size W w')
    (hc1 : ∀ W, Calls Tryd.prog 41 #[.agg #[.int .i64 r, .int .i64 c, .int .i64 x]] W fun e w' => e = .returned (.int .i64 p) ∧ Below W.heap.size W w')
    (hc2 : ∀ W, Calls Tryd.prog 42 #[.agg #[.int .i64 r, .int .i64 c, .int .i64 x]] W fun e w' => e = .returned (.int .i64 p) ∧ Below W.heap.size W w') :
    Calls Tryd.prog 7 #[.agg #[.int .i64 r, .int .i64 c, .int .i64 x]] w fun e w' => e = .returned (.bool true) ∧ Below w.heap.size w w' := by
  have X0 := Lib.hid (fun w hT => sane10 w hT)
  have P1 := Lib.hid hp1
  have P2 := Lib.hid hp2
  have C1 := Lib.hid hc1
  have C2 := Lib.hid hc2
  clear hp1 hp2 hc1 hc2
  have HT := Lib.hid hT
  clear hT
  go_enter Tryd.func7, Tryd.ntmps7
  go_upto_region 1 with fail
  have H1 := Lib.hid ((Hold.nil w).addSide r c x)
  generalize w.alloc (.cells #[.int .i64 r, .int .i64 c, .int .i64 x] 24) = w1 at *
  have hs_s := H1.out.side (.head _)
  go_wp2_with fail
  refine (X0.out _ (HT.out.below H1.out.below)).mono ?_
  rintro e w2 ⟨rfl, hb1⟩
  have H2 := Lib.hid (H1.out.next hb1 (Nat.le_refl _))
  clear hs_s
  clear hb1 H1 X0
  have hs_s := H2.out.side (.head _)
  go_wp2_with fail
  refine (P1.out _ H2.out.below).mono ?_
  rintro e w3 ⟨rfl, hb1⟩
  have H3 := Lib.hid (H2.out.next hb1 (Nat.le_refl _))
  clear hs_s
  clear hb1 H2 P1
  have hs_s := H3.out.side (.head _)
  go_wp2_with fail
  refine (P2.out _).mono ?_
  rintro e w4 ⟨rfl, hb1⟩
  have H4 := Lib.hid (H3.out.next hb1 (Nat.le_refl _))
  clear hs_s
  clear hb1 H3 P2
  have hs_s := H4.out.side (.head _)
  clear hs_s
  have hS : (w4.cell? ⟨w.heap.size, 0, none⟩ = some (.int .i64 r) ∧ w4.cell? ⟨w.heap.size, 1, none⟩ = some (.int .i64 c) ∧ w4.cell? ⟨w.heap.size, 2, none⟩ = some (.int .i64 x)) ∧ Hold w [SideC w.heap.size r c x] w4 := ⟨H4.out.side (.head _), H4.out⟩
  clear H4
  go_upto_region 5 with fail
  go_region_held3 (fun w' => (w'.cell? ⟨w.heap.size, 0, none⟩ = some (.int .i64 r) ∧ w'.cell? ⟨w.heap.size, 1, none⟩ = some (.int .i64 c) ∧ w'.cell? ⟨w.heap.size, 2, none⟩ = some (.int .i64 x)) ∧ Hold w [SideC w.heap.size r c x] w')
    (first
      | assumption
      | (refine Hold.one ?_ (.head _) (Below.refl _ _).drew (Nat.le_refl _); assumption)
      | (refine Hold.one ?_ (.head _) hb1 (Nat.le_refl _); assumption))
    (first
      | (go_at_call 41; with_reducible refine (C1.out _).mono ?_; rintro e w' ⟨rfl, hb1⟩)
      | (go_at_call 42; with_reducible refine (C2.out _).mono ?_; rintro e w' ⟨rfl, hb1⟩))
  all_goals
    rename_i hH0
    have HZ := Lib.hid hH0.2
    clear hH0 hS
    go_wp2_with fail
    go_ret
    exact ⟨rfl, HZ.out.below⟩

theorem pakePointSpec_any (r c x : Int) (w : World) (hT : Tabs w) :
    Calls Tryd.prog 7 #[.agg #[.int .i64 r, .int .i64 c, .int .i64 x]] w fun e w' => e = .returned (.bool true) ∧ Below w.heap.size w w' := by
  cases hs : okSide r c x with
  | false => exact pt_gen r c x 0 100 (pChk r c x) w hT (fun W _ => ppoint_no r c x hs W) (fun W => r10_point_no r c x hs W) (fun W => pcheck_any r c x W) (fun W => r10_check r c x W)
  | true =>
    obtain ⟨a, b, d, rfl, rfl, rfl, h1, h2, h3, h4⟩ := ok_nat hs
    exact pt_gen a b d (ppOf a b d) 0 (pChk a b d) w hT (fun W hb => ppoint_ok a b d h1 h2 h3 h4 W (hT.below hb)) (fun W => r10_point_ok a b d h1 h2 h3 h4 W) (fun W => pcheck_any a b d W) (fun W => r10_check a b d W)
end Go.Proofs.YtelikpkekloffaaDoor
