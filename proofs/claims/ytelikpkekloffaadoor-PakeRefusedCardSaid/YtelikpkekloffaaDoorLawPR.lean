/- The law PakeRefused, walked: whatever its arguments, it returns true. -/
import Derived.Test.YtelikpkekloffaaDoorSane10
namespace Go.Proofs.YtelikpkekloffaaDoor
open Go.RowKit

theorem Hold.addNew {w W : World} {L : List (World → Prop)} (h : Hold w L W) (g : Nat → Nat) (T : TypeId) : Hold w (DigC W.heap.size g :: L) (W.alloc (.cells (c32 g).toArray T)) :=
  h.add ((Below.refl _ _).alloc (Nat.le_refl _) _) (Nat.le_refl _) _ (row_new W _ T 32 .u8 _ fun i hi => by rw [List.getElem?_toArray]; exact c32_get g i hi) (DigC.kept _ _)

theorem run_zeroK (w : World) : Sem.run Tryd.prog (Instr.build 37 #[]) w = .ok (.agg (c32 fun _ => 0).toArray) w := by kernel_rfl
theorem run_zeroD (w : World) : Sem.run Tryd.prog (Instr.build 44 #[]) w = .ok (.agg (c32 fun _ => 0).toArray) w := by kernel_rfl
section
variable {ops : Array Oper} {rest : List Oper} {op : Oper} {a : Act} {w : World} {Q : Exit → Act → World → Prop}
theorem wpList_zeroK (hw : Region.wanted op (yielded ops a.tmps) = true) (ho : op.op = .build 37 #[]) (h : wpList Tryd.prog ops Q rest (a.put op.dst (.agg (c32 fun _ => 0).toArray)) w) : wpList Tryd.prog ops Q (op :: rest) a w := by
  refine wpList_step fun K hK => ?_
  rw [if_pos hw]
  have h1 := hK _ _ h
  unfold Oper.wp execOp
  simp only [ho, List.map_toArray, List.map_nil, Sem.run_bind, run_zeroK, Result.andThen_ok, Sem.run_pure]
  exact h1
theorem wpList_zeroD (hw : Region.wanted op (yielded ops a.tmps) = true) (ho : op.op = .build 44 #[]) (h : wpList Tryd.prog ops Q rest (a.put op.dst (.agg (c32 fun _ => 0).toArray)) w) : wpList Tryd.prog ops Q (op :: rest) a w := by
  refine wpList_step fun K hK => ?_
  rw [if_pos hw]
  have h1 := hK _ _ h
  unfold Oper.wp execOp
  simp only [ho, List.map_toArray, List.map_nil, Sem.run_bind, run_zeroD, Result.andThen_ok, Sem.run_pure]
  exact h1
end
theorem zero_lt32 : ∀ i, i < 32 → (fun _ => 0 : Nat → Nat) i < 256 := fun _ _ => Nat.zero_lt_succ _

set_option maxRecDepth 100000 in
set_option maxHeartbeats 4000000 in
theorem pr_side (r c x peer : Int) (g : Nat → Nat) (hs : okSide r c x = false) (w : World) (hT : Tabs w) :
    Calls Tryd.prog 11 #[.agg #[.int .i64 r, .int .i64 c, .int .i64 x], .int .i64 peer, d32 g] w fun e w' => e = .returned (.bool true) ∧ Below w.heap.size w w' := by
  have X0 := Lib.hid (fun w hT => sane10 w hT)
  have hbad : (okSide r c x && Gp.isEl peer) = false := by rw [hs, Bool.false_and]
  have C1 := Lib.hid (fun w => pcheck_any r c x w)
  rw [pChk_bad hs] at C1
  have K1 := Lib.hid (fun (W : World) (hb : Below w.heap.size w W) => pshared_bad r c x peer hbad W (hT.below hb))
  have R1 := Lib.hid (fun (W : World) (hb : Below w.heap.size w W) => pproved_bad r c x peer hbad W (hT.below hb))
  have A1 := Lib.hid (fun (W : World) (hb : Below w.heap.size w W) => paccept_bad r c x peer g hbad W (hT.below hb))
  unfold d32 at K1 R1 A1
  unfold d32
  clear hs hbad
  have HT := Lib.hid hT
  clear hT
  go_enter Tryd.func11, Tryd.ntmps11
  go_upto_region 1 with fail
  change Code.wp Tryd.prog _ _ _ ((w.alloc (.cells #[.int .i64 r, .int .i64 c, .int .i64 x] 24)).alloc (.cells (c32 g).toArray 44))
  have h1 := ((Hold.nil w).addSide r c x).addNew g 44
  rw [alloc_size] at h1
  have H1 := Lib.hid h1
  clear h1
  generalize (w.alloc (.cells #[.int .i64 r, .int .i64 c, .int .i64 x] 24)).alloc (.cells (c32 g).toArray 44) = w1 at *
  have hs_s := H1.out.side (.tail _ (.head _))
  go_wp2_with fail
  refine (X0.out _ (HT.out.below H1.out.below)).mono ?_
  rintro e w2 ⟨rfl, hb1⟩
  have H2 := Lib.hid (H1.out.next hb1 (Nat.le_refl _))
  clear hs_s
  clear hb1 H1 X0
  have hs_s := H2.out.side (.tail _ (.head _))
  go_wp2_with fail
  refine (C1.out _).mono ?_
  rintro e w3 ⟨rfl, hb1⟩
  have H3 := Lib.hid (H2.out.next hb1 (Nat.le_refl _))
  clear hs_s
  clear hb1 H2 C1
  have hs_s := H3.out.side (.tail _ (.head _))
  go_wp2_with fail
  refine (K1.out _ H3.out.below).mono ?_
  rintro e w4 ⟨rfl, hb1⟩
  have H4 := Lib.hid (H3.out.next hb1 (Nat.le_refl _))
  clear hs_s
  clear hb1 H3 K1
  have hs_s := H4.out.side (.tail _ (.head _))
  go_upto_region 7 with first
    | (refine wpList_allocK rfl rfl ?_; intro u1 hu1)
    | (refine wpList_storeK rfl (.tmp 8) (.tmp 28) rfl w4.heap.size (fun _ => 0) hu1.out.1 hu1.out.2.1 rfl rfl ?_; intro w5 hu2)
  have H5 := Lib.hid (H4.out.addDig hu2.out.1 hu2.out.2)
  clear hs_s
  clear hu1 hu2 H4
  generalize w4.heap.size = B5 at *
  clear u1
  have hs_s := H5.out.side (.tail _ (.tail _ (.head _)))
  go_wp2_with fail
  refine (R1.out _ H5.out.below).mono ?_
  rintro e w6 ⟨rfl, hb1⟩
  have H6 := Lib.hid (H5.out.next hb1 (Nat.le_refl _))
  clear hs_s
  clear hb1 H5 R1
  have hs_s := H6.out.side (.tail _ (.tail _ (.head _)))
  go_upto_region 8 with first
    | (refine wpList_alloc32 rfl rfl ?_; intro u1 hu1)
    | (refine wpList_storeD rfl (.tmp 10) (.tmp 34) rfl w6.heap.size (fun _ => 0) hu1.out.1 hu1.out.2.1 rfl rfl ?_; intro w7 hu2)
  have H7 := Lib.hid (H6.out.addDig hu2.out.1 hu2.out.2)
  clear hs_s
  clear hu1 hu2 H6
  generalize w6.heap.size = B7 at *
  clear u1
  have hs_s := H7.out.side (.tail _ (.tail _ (.tail _ (.head _))))
  go_wp2_with first | (refine wpList_loadD rfl (.tmp 5) rfl _ _ (H7.out.dig (.tail _ (.tail _ (.head _)))) rfl ?_)
  refine (A1.out _ H7.out.below).mono ?_
  rintro e w8 ⟨rfl, hb1⟩
  have H8 := Lib.hid (H7.out.next hb1 (Nat.le_refl _))
  clear hs_s
  clear hb1 H7 A1
  have hs_s := H8.out.side (.tail _ (.tail _ (.tail _ (.head _))))
  go_wp2_with first | (refine wpList_loadKg (by rfl) (.tmp 8) rfl _ _ (H8.out.dig (.tail _ (.head _))) rfl ?_) | (refine wpList_loadDg (by rfl) (.tmp 10) rfl _ _ (H8.out.dig (.head _)) rfl ?_) | (refine wpList_zeroK (by rfl) rfl ?_) | (refine wpList_zeroD (by rfl) rfl ?_) | (refine wpList_neqKb (by rfl) (.tmp 46) (.tmp 47) 37 rfl (fun _ => 0) (fun _ => 0) zero_lt32 zero_lt32 rfl rfl false (eqB_selfN _) ?_) | (refine wpList_neqDb (by rfl) (.tmp 50) (.tmp 51) 44 rfl (fun _ => 0) (fun _ => 0) zero_lt32 zero_lt32 rfl rfl false (eqB_selfN _) ?_)
  go_ret
  exact ⟨rfl, H8.out.below⟩

set_option maxRecDepth 100000 in
set_option maxHeartbeats 4000000 in
theorem pr_peer (r c x : Nat) (peer : Int) (g : Nat → Nat) (hr : r = 1 ∨ r = 2) (hc : c < 1000000) (h1 : 1 ≤ x) (h2 : x < 2305843009213688669) (hp : Gp.isEl peer = false) (w : World) (hT : Tabs w) :
    Calls Tryd.prog 11 #[.agg #[.int .i64 r, .int .i64 c, .int .i64 x], .int .i64 peer, d32 g] w fun e w' => e = .returned (.bool true) ∧ Below w.heap.size w w' := by
  have X0 := Lib.hid (fun w hT => sane10 w hT)
  have hbad : (okSide (r : Int) (c : Int) (x : Int) && Gp.isEl peer) = false := by rw [hp, Bool.and_false]
  have C1 := Lib.hid (fun w => pcheck_any r c x w)
  rw [ok_of hr hc h1 h2] at C1
  have C2 := Lib.hid (fun w => check_any peer w)
  rw [show Gp.gChk peer = 40 by unfold Gp.gChk; rw [hp]; rfl] at C2
  have K1 := Lib.hid (fun (W : World) (hb : Below w.heap.size w W) => pshared_bad r c x peer hbad W (hT.below hb))
  have R1 := Lib.hid (fun (W : World) (hb : Below w.heap.size w W) => pproved_bad r c x peer hbad W (hT.below hb))
  have A1 := Lib.hid (fun (W : World) (hb : Below w.heap.size w W) => paccept_bad r c x peer g hbad W (hT.below hb))
  unfold d32 at K1 R1 A1
  unfold d32
  clear hr hc h1 h2 hp hbad
  have HT := Lib.hid hT
  clear hT
  go_enter Tryd.func11, Tryd.ntmps11
  go_upto_region 1 with fail
  change Code.wp Tryd.prog _ _ _ ((w.alloc (.cells #[.int .i64 r, .int .i64 c, .int .i64 x] 24)).alloc (.cells (c32 g).toArray 44))
  have h1 := ((Hold.nil w).addSide r c x).addNew g 44
  rw [alloc_size] at h1
  have H1 := Lib.hid h1
  clear h1
  generalize (w.alloc (.cells #[.int .i64 r, .int .i64 c, .int .i64 x] 24)).alloc (.cells (c32 g).toArray 44) = w1 at *
  have hs_s := H1.out.side (.tail _ (.head _))
  go_wp2_with fail
  refine (X0.out _ (HT.out.below H1.out.below)).mono ?_
  rintro e w2 ⟨rfl, hb1⟩
  have H2 := Lib.hid (H1.out.next hb1 (Nat.le_refl _))
  clear hs_s
  clear hb1 H1 X0
  have hs_s := H2.out.side (.tail _ (.head _))
  go_wp2_with fail
  refine (C1.out _).mono ?_
  rintro e w3 ⟨rfl, hb1⟩
  have H3 := Lib.hid (H2.out.next hb1 (Nat.le_refl _))
  clear hs_s
  clear hb1 H2 C1
  have hs_s := H3.out.side (.tail _ (.head _))
  go_wp2_with fail
  refine (C2.out _).mono ?_
  rintro e w4 ⟨rfl, hb1⟩
  have H4 := Lib.hid (H3.out.next hb1 (Nat.le_refl _))
  clear hs_s
  clear hb1 H3 C2
  have hs_s := H4.out.side (.tail _ (.head _))
  go_wp2_with fail
  refine (K1.out _ H4.out.below).mono ?_
  rintro e w5 ⟨rfl, hb1⟩
  have H5 := Lib.hid (H4.out.next hb1 (Nat.le_refl _))
  clear hs_s
  clear hb1 H4 K1
  have hs_s := H5.out.side (.tail _ (.head _))
  go_upto_region 7 with first
    | (refine wpList_allocK rfl rfl ?_; intro u1 hu1)
    | (refine wpList_storeK rfl (.tmp 8) (.tmp 28) rfl w5.heap.size (fun _ => 0) hu1.out.1 hu1.out.2.1 rfl rfl ?_; intro w6 hu2)
  have H6 := Lib.hid (H5.out.addDig hu2.out.1 hu2.out.2)
  clear hs_s
  clear hu1 hu2 H5
  generalize w5.heap.size = B6 at *
  clear u1
  have hs_s := H6.out.side (.tail _ (.tail _ (.head _)))
  go_wp2_with fail
  refine (R1.out _ H6.out.below).mono ?_
  rintro e w7 ⟨rfl, hb1⟩
  have H7 := Lib.hid (H6.out.next hb1 (Nat.le_refl _))
  clear hs_s
  clear hb1 H6 R1
  have hs_s := H7.out.side (.tail _ (.tail _ (.head _)))
  go_upto_region 8 with first
    | (refine wpList_alloc32 rfl rfl ?_; intro u1 hu1)
    | (refine wpList_storeD rfl (.tmp 10) (.tmp 34) rfl w7.heap.size (fun _ => 0) hu1.out.1 hu1.out.2.1 rfl rfl ?_; intro w8 hu2)
  have H8 := Lib.hid (H7.out.addDig hu2.out.1 hu2.out.2)
  clear hs_s
  clear hu1 hu2 H7
  generalize w7.heap.size = B8 at *
  clear u1
  have hs_s := H8.out.side (.tail _ (.tail _ (.tail _ (.head _))))
  go_wp2_with first | (refine wpList_loadD rfl (.tmp 5) rfl _ _ (H8.out.dig (.tail _ (.tail _ (.head _)))) rfl ?_)
  refine (A1.out _ H8.out.below).mono ?_
  rintro e w9 ⟨rfl, hb1⟩
  have H9 := Lib.hid (H8.out.next hb1 (Nat.le_refl _))
  clear hs_s
  clear hb1 H8 A1
  have hs_s := H9.out.side (.tail _ (.tail _ (.tail _ (.head _))))
  go_wp2_with first | (refine wpList_loadKg (by rfl) (.tmp 8) rfl _ _ (H9.out.dig (.tail _ (.head _))) rfl ?_) | (refine wpList_loadDg (by rfl) (.tmp 10) rfl _ _ (H9.out.dig (.head _)) rfl ?_) | (refine wpList_zeroK (by rfl) rfl ?_) | (refine wpList_zeroD (by rfl) rfl ?_) | (refine wpList_neqKb (by rfl) (.tmp 46) (.tmp 47) 37 rfl (fun _ => 0) (fun _ => 0) zero_lt32 zero_lt32 rfl rfl false (eqB_selfN _) ?_) | (refine wpList_neqDb (by rfl) (.tmp 50) (.tmp 51) 44 rfl (fun _ => 0) (fun _ => 0) zero_lt32 zero_lt32 rfl rfl false (eqB_selfN _) ?_)
  go_ret
  exact ⟨rfl, H9.out.below⟩

set_option maxRecDepth 100000 in
set_option maxHeartbeats 4000000 in
theorem pr_ok (r c x peer : Nat) (g : Nat → Nat) (hg : ∀ i, i < 32 → g i < 256) (hr : r = 1 ∨ r = 2) (hc : c < 1000000) (h1 : 1 ≤ x) (h2 : x < 2305843009213688669) (hp : Gp.El peer) (w : World) (hT : Tabs w) :
    Calls Tryd.prog 11 #[.agg #[.int .i64 r, .int .i64 c, .int .i64 x], .int .i64 peer, d32 g] w fun e w' => e = .returned (.bool true) ∧ Below w.heap.size w w' := by
  have X0 := Lib.hid (fun w hT => sane10 w hT)
  have C1 := Lib.hid (fun w => pcheck_any r c x w)
  rw [ok_of hr hc h1 h2] at C1
  have C2 := Lib.hid (fun w => checkE hp w)
  have K1 := Lib.hid (fun (W : World) (hb : Below w.heap.size w W) => pshared_ok r c x hr hc h1 h2 peer hp W (hT.below hb))
  have R1 := Lib.hid (fun (W : World) (hb : Below w.heap.size w W) => pproved_ok r c x hr hc h1 h2 peer hp W (hT.below hb))
  have A1 := Lib.hid (fun (W : World) (hb : Below w.heap.size w W) => paccept_ok r c x hr hc h1 h2 peer hp g hg W (hT.below hb))
  generalize eqB g (prOf (keyOf r c x peer) (3 - r)) = m at *
  generalize prOf (keyOf r c x peer) r = p at *
  generalize keyOf r c x peer = k at *
  unfold d32 at K1 R1 A1
  unfold d32
  clear hr hc h1 h2 hp hg
  have HT := Lib.hid hT
  clear hT
  go_enter Tryd.func11, Tryd.ntmps11
  go_upto_region 1 with fail
  change Code.wp Tryd.prog _ _ _ ((w.alloc (.cells #[.int .i64 r, .int .i64 c, .int .i64 x] 24)).alloc (.cells (c32 g).toArray 44))
  have h1 := ((Hold.nil w).addSide r c x).addNew g 44
  rw [alloc_size] at h1
  have H1 := Lib.hid h1
  clear h1
  generalize (w.alloc (.cells #[.int .i64 r, .int .i64 c, .int .i64 x] 24)).alloc (.cells (c32 g).toArray 44) = w1 at *
  have hs_s := H1.out.side (.tail _ (.head _))
  go_wp2_with fail
  refine (X0.out _ (HT.out.below H1.out.below)).mono ?_
  rintro e w2 ⟨rfl, hb1⟩
  have H2 := Lib.hid (H1.out.next hb1 (Nat.le_refl _))
  clear hs_s
  clear hb1 H1 X0
  have hs_s := H2.out.side (.tail _ (.head _))
  go_wp2_with fail
  refine (C1.out _).mono ?_
  rintro e w3 ⟨rfl, hb1⟩
  have H3 := Lib.hid (H2.out.next hb1 (Nat.le_refl _))
  clear hs_s
  clear hb1 H2 C1
  have hs_s := H3.out.side (.tail _ (.head _))
  go_wp2_with fail
  refine (C2.out _).mono ?_
  rintro e w4 ⟨rfl, hb1⟩
  have H4 := Lib.hid (H3.out.next hb1 (Nat.le_refl _))
  clear hs_s
  clear hb1 H3 C2
  have hs_s := H4.out.side (.tail _ (.head _))
  go_wp2_with fail
  refine (K1.out _ H4.out.below).mono ?_
  rintro e w5 ⟨rfl, hb1⟩
  have H5 := Lib.hid (H4.out.next hb1 (Nat.le_refl _))
  clear hs_s
  clear hb1 H4 K1
  have hs_s := H5.out.side (.tail _ (.head _))
  go_upto_region 7 with first
    | (refine wpList_allocK rfl rfl ?_; intro u1 hu1)
    | (refine wpList_storeK rfl (.tmp 8) (.tmp 28) rfl w5.heap.size k hu1.out.1 hu1.out.2.1 rfl rfl ?_; intro w6 hu2)
  have H6 := Lib.hid (H5.out.addDig hu2.out.1 hu2.out.2)
  clear hs_s
  clear hu1 hu2 H5
  generalize w5.heap.size = B6 at *
  clear u1
  have hs_s := H6.out.side (.tail _ (.tail _ (.head _)))
  go_wp2_with fail
  refine (R1.out _ H6.out.below).mono ?_
  rintro e w7 ⟨rfl, hb1⟩
  have H7 := Lib.hid (H6.out.next hb1 (Nat.le_refl _))
  clear hs_s
  clear hb1 H6 R1
  have hs_s := H7.out.side (.tail _ (.tail _ (.head _)))
  go_upto_region 8 with first
    | (refine wpList_alloc32 rfl rfl ?_; intro u1 hu1)
    | (refine wpList_storeD rfl (.tmp 10) (.tmp 34) rfl w7.heap.size p hu1.out.1 hu1.out.2.1 rfl rfl ?_; intro w8 hu2)
  have H8 := Lib.hid (H7.out.addDig hu2.out.1 hu2.out.2)
  clear hs_s
  clear hu1 hu2 H7
  generalize w7.heap.size = B8 at *
  clear u1
  have hs_s := H8.out.side (.tail _ (.tail _ (.tail _ (.head _))))
  go_wp2_with first | (refine wpList_loadD rfl (.tmp 5) rfl _ _ (H8.out.dig (.tail _ (.tail _ (.head _)))) rfl ?_)
  refine (A1.out _ H8.out.below).mono ?_
  rintro e w9 ⟨rfl, hb1⟩
  have H9 := Lib.hid (H8.out.next hb1 (Nat.le_refl _))
  clear hs_s
  clear hb1 H8 A1
  have hs_s := H9.out.side (.tail _ (.tail _ (.tail _ (.head _))))
  go_wp2_with fail
  go_ret
  exact ⟨rfl, H9.out.below⟩

theorem pakeRefused_any (r c x peer : Int) (g : Nat → Nat) (hg : ∀ i, i < 32 → g i < 256) (w : World) (hT : Tabs w) :
    Calls Tryd.prog 11 #[.agg #[.int .i64 r, .int .i64 c, .int .i64 x], .int .i64 peer, d32 g] w fun e w' => e = .returned (.bool true) ∧ Below w.heap.size w w' := by
  cases hs : okSide r c x with
  | false => exact pr_side r c x peer g hs w hT
  | true =>
    obtain ⟨a, b, d, rfl, rfl, rfl, h1, h2, h3, h4⟩ := ok_nat hs
    cases hp : Gp.isEl peer with
    | false => exact pr_peer a b d peer g h1 h2 h3 h4 hp w hT
    | true =>
      obtain ⟨n, rfl, _⟩ := Gp.isEl_nat hp
      exact pr_ok a b d n g hg h1 h2 h3 h4 (Gp.El.of hp) w hT
end Go.Proofs.YtelikpkekloffaaDoor
