/- The law PakeMasks, walked: whatever its arguments, it returns true. -/
import Derived.Test.YtelikpkekloffaaDoorSane10
import Derived.Test.YtelikpkekloffaaDoorRef10A
namespace Go.Proofs.YtelikpkekloffaaDoor
open Go.RowKit

/-- what a region reads of one side, and what stands. -/
theorem Hold.two {w W W' : World} {L : List (World → Prop)} {B b : Nat} {r c x : Int} (h : (W.cell? ⟨B, 0, none⟩ = some (.int .i64 r) ∧ W.cell? ⟨B, 1, none⟩ = some (.int .i64 c)) ∧ Hold w L W) (hm : SideC B r c x ∈ L) (hb : Below b W W') (hD : W.heap.size ≤ b) :
    (W'.cell? ⟨B, 0, none⟩ = some (.int .i64 r) ∧ W'.cell? ⟨B, 1, none⟩ = some (.int .i64 c)) ∧ Hold w L W' := by
  have h2 := h.2.next hb hD
  exact ⟨⟨(h2.side hm).1, (h2.side hm).2.1⟩, h2⟩

set_option maxRecDepth 100000 in
set_option maxHeartbeats 4000000 in
theorem pakeMasks_any (n1 n2 n3 n4 : Int) (w : World) (hT : Tabs w) :
    Calls Tryd.prog 3 #[.int .i64 n1, .int .i64 n2, .int .i64 n3, .int .i64 n4] w fun e w' => e = .returned (.bool true) ∧ Below w.heap.size w w' := by
  have X0 := Lib.hid (fun w hT => sane10 w hT)
  have X1 := Lib.hid (fun w => side_any n1 n2 n3 w)
  have X2 := Lib.hid (fun w => side_any n1 n2 n4 w)
  have r1 := sdR_ok n1
  have c1 := sdC_lt n2
  have x1 := sdX_ok n3
  have y1 := sdX_ok n4
  generalize sdR n1 = r at *
  generalize sdC n2 = c at *
  generalize sdX n3 = x at *
  generalize sdX n4 = y at *
  have P1 := Lib.hid (fun (W : World) (hb : Below w.heap.size w W) => ppoint_ok r c x r1 c1 x1.1 x1.2 W (hT.below hb))
  have P2 := Lib.hid (fun (W : World) (hb : Below w.heap.size w W) => ppoint_ok r c y r1 c1 y1.1 y1.2 W (hT.below hb))
  have M1 := Lib.hid (fun w => r10_mask r r1 w)
  have M2 := Lib.hid (fun w => r10_password c (by omega) w)
  have M3 := Lib.hid (fun w => expE (mk_el (nmOf r)) (pwOf_lt c) (r := maOf (nmOf r) c) rfl w)
  have E1 := Lib.hid (fun w => invE (ma_el (nmOf r) c) rfl w)
  have E2 := Lib.hid (fun w => mulE (pp_el r c x) ((ma_el (nmOf r) c).pw 2305843009213688668) (pp_bare r c x) w)
  have E3 := Lib.hid (fun w => baseE x1.2 (r := Gp.pw 4611686018427377339 4 x) rfl w)
  have E4 := Lib.hid (fun w => fsub_ok y x y1.2 x1.2 w)
  have E5 := Lib.hid (fun w => baseE (Nat.mod_lt (y + (2305843009213688669 - x)) (by decide)) rfl w)
  have E6 := Lib.hid (fun w => mulE (pp_el r c x) (Gp.el_four.pw _) (pp_move r c x y x1.2 y1.2) w)
  generalize Gp.pw 4611686018427377339 4 ((y + (2305843009213688669 - x)) % 2305843009213688669) = z at *
  generalize (y + (2305843009213688669 - x)) % 2305843009213688669 = d at *
  generalize Gp.pw 4611686018427377339 (maOf (nmOf r) c) 2305843009213688668 = iv at *
  generalize maOf (nmOf r) c = ma at *
  generalize mkOf (nmOf r) = mk at *
  generalize pwOf c = k at *
  generalize Gp.pw 4611686018427377339 4 x = g at *
  generalize ppOf r c x = p at *
  generalize ppOf r c y = q at *
  clear r1 c1 x1 y1
  have HT := Lib.hid hT
  clear hT
  go_enter Tryd.func3, Tryd.ntmps3
  go_wp2_with fail
  refine (X0.out _ (HT.out.below (Below.refl _ _))).mono ?_
  rintro e w1 ⟨rfl, hb1⟩
  have H1 := Lib.hid ((Hold.nil w).next hb1 (Nat.le_refl _))
  clear hb1 X0
  go_wp2_with fail
  refine (X1.out _).mono ?_
  rintro e w2 ⟨rfl, hb1⟩
  have H2 := Lib.hid (H1.out.next hb1 (Nat.le_refl _))
  clear hb1 H1 X1
  go_wp2_with fail
  refine (X2.out _).mono ?_
  rintro e w3 ⟨rfl, hb1⟩
  have H3 := Lib.hid (H2.out.next hb1 (Nat.le_refl _))
  clear hb1 H2 X2
  go_upto_region 4 with fail
  have h4 := ((H3.out.addSide r c x).addSide r c y)
  rw [alloc_size] at h4
  have H4 := Lib.hid h4
  clear h4 H3
  generalize (w3.alloc (.cells #[.int .i64 r, .int .i64 c, .int .i64 x] 24)).alloc (.cells #[.int .i64 r, .int .i64 c, .int .i64 y] 24) = w4 at *
  have hs_b := H4.out.side (.head _)
  have hs_a := H4.out.side (.tail _ (.head _))
  go_wp2_with fail
  refine (P1.out _ H4.out.below).mono ?_
  rintro e w5 ⟨rfl, hb1⟩
  have H5 := Lib.hid (H4.out.next hb1 (Nat.le_refl _))
  clear hs_b hs_a
  clear hb1 H4 P1
  have hs_b := H5.out.side (.head _)
  have hs_a := H5.out.side (.tail _ (.head _))
  go_wp2_with fail
  refine (P2.out _ H5.out.below).mono ?_
  rintro e w6 ⟨rfl, hb1⟩
  have H6 := Lib.hid (H5.out.next hb1 (Nat.le_refl _))
  clear hs_b hs_a
  clear hb1 H5 P2
  have hs_b := H6.out.side (.head _)
  have hs_a := H6.out.side (.tail _ (.head _))
  clear hs_b hs_a
  go_wp2_with fail
  have hh := H6.out
  have hS : (w6.cell? ⟨w3.heap.size, 0, none⟩ = some (.int .i64 (r : Int)) ∧ w6.cell? ⟨w3.heap.size, 1, none⟩ = some (.int .i64 (c : Int))) ∧ Hold w [SideC (w3.heap.size + 1) r c y, SideC w3.heap.size r c x] w6 := ⟨⟨(hh.side (.tail _ (.head _))).1, (hh.side (.tail _ (.head _))).2.1⟩, hh⟩
  clear hh H6
  go_region_held3 (fun w' => (w'.cell? ⟨w3.heap.size, 0, none⟩ = some (.int .i64 (r : Int)) ∧ w'.cell? ⟨w3.heap.size, 1, none⟩ = some (.int .i64 (c : Int))) ∧ Hold w [SideC (w3.heap.size + 1) r c y, SideC w3.heap.size r c x] w')
    (first
      | assumption
      | (refine Hold.two ?_ (.tail _ (.head _)) (Below.refl _ _).drew (Nat.le_refl _); assumption)
      | (refine Hold.two ?_ (.tail _ (.head _)) hb1 (Nat.le_refl _); assumption))
    (first
      | (go_at_call 23; with_reducible refine (M1.out _).mono ?_; rintro e w' ⟨rfl, hb1⟩)
      | (go_at_call 24; with_reducible refine (M2.out _).mono ?_; rintro e w' ⟨rfl, hb1⟩)
      | (go_at_call 22; with_reducible refine (M3.out _).mono ?_; rintro e w' ⟨rfl, hb1⟩))
  all_goals
    rename_i hH0
    have H7 := Lib.hid hH0.2
    clear hH0 hS
    have hs_b := H7.out.side (.head _)
    have hs_a := H7.out.side (.tail _ (.head _))
    go_wp2_with fail
    refine (E1.out _).mono ?_
    rintro e w8 ⟨rfl, hb1⟩
    have H8 := Lib.hid (H7.out.next hb1 (Nat.le_refl _))
    clear hs_b hs_a
    clear hb1 H7 E1
    have hs_b := H8.out.side (.head _)
    have hs_a := H8.out.side (.tail _ (.head _))
    go_wp2_with fail
    refine (E2.out _).mono ?_
    rintro e w9 ⟨rfl, hb1⟩
    have H9 := Lib.hid (H8.out.next hb1 (Nat.le_refl _))
    clear hs_b hs_a
    clear hb1 H8 E2
    have hs_b := H9.out.side (.head _)
    have hs_a := H9.out.side (.tail _ (.head _))
    go_wp2_with fail
    refine (E3.out _).mono ?_
    rintro e w10 ⟨rfl, hb1⟩
    have H10 := Lib.hid (H9.out.next hb1 (Nat.le_refl _))
    clear hs_b hs_a
    clear hb1 H9 E3
    have hs_b := H10.out.side (.head _)
    have hs_a := H10.out.side (.tail _ (.head _))
    go_wp2_with fail
    refine (E4.out _).mono ?_
    rintro e w11 ⟨rfl, hb1⟩
    have H11 := Lib.hid (H10.out.next hb1 (Nat.le_refl _))
    clear hs_b hs_a
    clear hb1 H10 E4
    have hs_b := H11.out.side (.head _)
    have hs_a := H11.out.side (.tail _ (.head _))
    go_wp2_with fail
    refine (E5.out _).mono ?_
    rintro e w12 ⟨rfl, hb1⟩
    have H12 := Lib.hid (H11.out.next hb1 (Nat.le_refl _))
    clear hs_b hs_a
    clear hb1 H11 E5
    have hs_b := H12.out.side (.head _)
    have hs_a := H12.out.side (.tail _ (.head _))
    go_wp2_with fail
    refine (E6.out _).mono ?_
    rintro e w13 ⟨rfl, hb1⟩
    have H13 := Lib.hid (H12.out.next hb1 (Nat.le_refl _))
    clear hs_b hs_a
    clear hb1 H12 E6
    have hs_b := H13.out.side (.head _)
    have hs_a := H13.out.side (.tail _ (.head _))
    go_wp2_with fail
    go_ret
    exact ⟨rfl, H13.out.below⟩
end Go.Proofs.YtelikpkekloffaaDoor
