/- The reference of layer 10: Shared, proof, Proof, Accept, walked. -/
import Derived.Test.YtelikpkekloffaaDoorRef10
import Derived.Test.YtelikpkekloffaaDoorDraw
namespace Go.Proofs.YtelikpkekloffaaDoor
open Go.RowKit

theorem n8_24 (a b z : Nat) (i : Nat) (h : i < 8 + 8 + 8) : Sha.cat (8 + 8) (Sha.cat 8 (by8 a) (by8 b)) (by8 z) i = n8 a b z i := by
  unfold Sha.cat n8
  by_cases h1 : i < 8
  · rw [if_pos (by omega), if_pos h1, if_pos h1, show i % 8 = i by omega]
  · by_cases h2 : i < 16
    · rw [if_pos (by omega), if_neg h1, if_neg h1, if_pos h2, show i % 8 = i - 8 by omega]
    · rw [if_neg (by omega), if_neg h1, if_neg h2, show i % 8 = i - (8 + 8) by omega]
theorem tag24 (a b z : Nat) : Sha.tagged pakeT.size (sb pakeT) (8 + 8 + 8) (Sha.cat (8 + 8) (Sha.cat 8 (by8 a) (by8 b)) (by8 z)) = Sha.tagged pakeT.size (sb pakeT) 24 (n8 a b z) :=
  funext fun i => Sha.tagged_congr (fun _ _ => rfl) (n8_24 a b z) i
theorem cat16_lt (a b : Nat) (i : Nat) : Sha.cat 8 (by8 a) (by8 b) i < 256 := by
  unfold Sha.cat
  by_cases h : i < 8
  · rw [if_pos h]; exact by8_lt _ _
  · rw [if_neg h]; exact by8_lt _ _
theorem cat24_lt (a b z : Nat) (i : Nat) : Sha.cat (8 + 8) (Sha.cat 8 (by8 a) (by8 b)) (by8 z) i < 256 := by
  show (if i < 8 + 8 then Sha.cat 8 (by8 a) (by8 b) i else by8 z (i - (8 + 8))) < 256
  by_cases h : i < 8 + 8
  · rw [if_pos h]; exact cat16_lt a b i
  · rw [if_neg h]; exact by8_lt _ _
theorem keyOf_1 (c x peer : Nat) : keyOf 1 c x peer = Sha.tagged pakeT.size (sb pakeT) 24 (n8 (ppOf 1 c x) peer (shOf 1 c x peer)) := by
  unfold keyOf; rw [if_pos rfl]
theorem keyOf_2 (c x peer : Nat) : keyOf 2 c x peer = Sha.tagged pakeT.size (sb pakeT) 24 (n8 peer (ppOf 2 c x) (shOf 2 c x peer)) := by
  unfold keyOf; rw [if_neg (by decide)]
theorem run_zeroK' (w : World) : Sem.run Tryd.prog (Instr.build 37 #[]) w = .ok (.agg (c32 fun _ => 0).toArray) w := by kernel_rfl
theorem run_zeroD' (w : World) : Sem.run Tryd.prog (Instr.build 44 #[]) w = .ok (.agg (c32 fun _ => 0).toArray) w := by kernel_rfl
section
variable {ops : Array Oper} {rest : List Oper} {op : Oper} {a : Act} {w : World} {Q : Exit → Act → World → Prop}
theorem wpList_zeroK' (hw : Region.wanted op (yielded ops a.tmps) = true) (ho : op.op = .build 37 #[]) (h : wpList Tryd.prog ops Q rest (a.put op.dst (.agg (c32 fun _ => 0).toArray)) w) : wpList Tryd.prog ops Q (op :: rest) a w := by
  refine wpList_step fun K hK => ?_
  rw [if_pos hw]
  have h1 := hK _ _ h
  unfold Oper.wp execOp
  simp only [ho, List.map_toArray, List.map_nil, Sem.run_bind, run_zeroK', Result.andThen_ok, Sem.run_pure]
  exact h1
theorem wpList_zeroD' (hw : Region.wanted op (yielded ops a.tmps) = true) (ho : op.op = .build 44 #[]) (h : wpList Tryd.prog ops Q rest (a.put op.dst (.agg (c32 fun _ => 0).toArray)) w) : wpList Tryd.prog ops Q (op :: rest) a w := by
  refine wpList_step fun K hK => ?_
  rw [if_pos hw]
  have h1 := hK _ _ h
  unfold Oper.wp execOp
  simp only [ho, List.map_toArray, List.map_nil, Sem.run_bind, run_zeroD', Result.andThen_ok, Sem.run_pure]
  exact h1
end
section
variable {ops : Array Oper} {o : Oper} {a : Act} {w : World} {K : Act → World → Prop} {Q : Exit → Act → World → Prop}
/-- append of whatever bytes to a slice of the call's own. -/
theorem st_appP (hg : o.guard = none) (s x : Operand) (ho : o.op = .call { callee := .builtin .append, args := #[s, x], argTypes := #[33, 33] }) (base : Nat) (v : Value) (n : Nat) (xs : List Value) (hs : a.eval s = v) (hown : w.ownsRow base 5 1 v n xs)
    (p : Option Addr) (m c : Nat) (f : Nat → Nat) (hx : a.eval x = .slice p m c) (hb : Bytes w p m c f) (hm : 0 < m) (hle : n + m ≤ 140737488355328) (hbase : base ≤ w.heap.size)
    (h : ∀ v' w', Hid (w'.ownsRow base 5 1 v' (n + m) (xs ++ bl m f) ∧ Below base w w') → K (a.put o.dst v') w') :
    if Region.wanted o (yielded ops a.tmps) = true then Oper.wp Tryd.prog o a w K Q else K (a.put o.dst undef) w := by
  obtain ⟨B, off, rfl, _, _⟩ := hb.lies hm
  exact st_app hg s x ho base v n xs hs hown _ m c f hx hb hm hle hbase fun v' w' hz => h v' w' (Lib.hid ⟨hz.out.1, hz.out.2.1⟩)
end
theorem Hold.keyNew {w W : World} {L : List (World → Prop)} (h : Hold w L W) (T : TypeId) : Hold w (DigC W.heap.size (fun _ => 0) :: L) (W.alloc (.cells (List.replicate 32 (Value.int .u8 0)).toArray T)) :=
  h.add ((Below.refl _ _).alloc (Nat.le_refl _) _) (Nat.le_refl _) _ (row_zeros32 W T) (DigC.kept _ _)
theorem key_load {W : World} {B : Nat} {g : Nat → Nat} (h : DigC B g W) : (loadVar 37 ⟨B, 0, none⟩).run Tryd.prog W = .ok (d32 g) W :=
  run_loadVar_mid W B 0 37 (c32 g) (.array 32 5) (range32 (Row.reads h)) under_key rfl (info_key' _)
theorem dig_load {W : World} {B : Nat} {g : Nat → Nat} (h : DigC B g W) : (loadVar 44 ⟨B, 0, none⟩).run Tryd.prog W = .ok (d32 g) W :=
  run_loadVar_mid W B 0 44 (c32 g) (.array 32 5) (range32 (Row.reads h)) under32 rfl (info_dig' _)

set_option maxHeartbeats 4000000 in
set_option maxRecDepth 100000 in
theorem r10_shared_bad (r c x peer : Int) (h : (okSide r c x && Gp.isEl peer) = false) (w : World) :
    Calls Tryd.prog 43 #[.agg #[.int .i64 r, .int .i64 c, .int .i64 x], .int .i64 peer] w fun e w' => e = .returned (.tuple #[d32 (fun _ => 0), .int .i64 100]) ∧ Below w.heap.size w w' := by
  have HC := Lib.hid (fun w => r10_check r c x w)
  have HP := Lib.hid (fun w => rcheck_any peer w)
  cases hs : okSide r c x with
  | false =>
    rw [pChk_bad hs] at HC
    clear hs h HP
    go_enter Tryd.func43, Tryd.ntmps43
    go_upto_region 1 with fail
    change Code.wp Tryd.prog _ _ _ ((w.alloc (.cells #[.int .i64 r, .int .i64 c, .int .i64 x] 24)).alloc (.cells (List.replicate 32 (Value.int .u8 0)).toArray 37))
    have h1 := ((Hold.nil w).addSide r c x).keyNew 37
    rw [alloc_size] at h1
    have H1 := Lib.hid h1
    clear h1
    generalize (w.alloc (.cells #[.int .i64 r, .int .i64 c, .int .i64 x] 24)).alloc (.cells (List.replicate 32 (Value.int .u8 0)).toArray 37) = w1 at *
    have hs_s := H1.out.side (.tail _ (.head _))
    go_wp2_with fail
    refine (HC.out _).mono ?_
    rintro e w2 ⟨rfl, hb1⟩
    have H2 := Lib.hid (H1.out.next hb1 (Nat.le_refl _))
    clear hs_s hb1 H1 HC
    go_wp2_with first
      | (refine wpList_zeroK' (by rfl) rfl ?_)
      | (refine wpList_storeK rfl (.tmp 4) (.tmp 18) rfl (w.heap.size + 1) (fun _ => 0) (H2.out.dig (.head _)) (Below.refl _ _) rfl rfl ?_; intro w4 hw4)
    exact bodyPost_ret (v := .tuple #[d32 (fun _ => 0), .int .i64 100]) (results_cellTmp rfl rfl rfl (key_load hw4.out.1)) rfl ⟨rfl, H2.out.below.trans (hw4.out.2.mono (Nat.le_succ _))⟩
  | true =>
    rw [hs, Bool.true_and] at h
    rw [show pChk r c x = 0 by unfold pChk; rw [hs, if_pos rfl]] at HC
    rw [show Gp.gChk peer = 40 by unfold Gp.gChk; rw [h]; rfl] at HP
    clear hs h
    go_enter Tryd.func43, Tryd.ntmps43
    go_upto_region 1 with fail
    change Code.wp Tryd.prog _ _ _ ((w.alloc (.cells #[.int .i64 r, .int .i64 c, .int .i64 x] 24)).alloc (.cells (List.replicate 32 (Value.int .u8 0)).toArray 37))
    have h1 := ((Hold.nil w).addSide r c x).keyNew 37
    rw [alloc_size] at h1
    have H1 := Lib.hid h1
    clear h1
    generalize (w.alloc (.cells #[.int .i64 r, .int .i64 c, .int .i64 x] 24)).alloc (.cells (List.replicate 32 (Value.int .u8 0)).toArray 37) = w1 at *
    have hs_s := H1.out.side (.tail _ (.head _))
    go_wp2_with fail
    refine (HC.out _).mono ?_
    rintro e w2 ⟨rfl, hb1⟩
    have H2 := Lib.hid (H1.out.next hb1 (Nat.le_refl _))
    clear hs_s hb1 H1 HC
    go_wp2_with fail
    refine (HP.out _).mono ?_
    rintro e w3 ⟨rfl, rfl⟩
    clear HP
    go_wp2_with first
      | (refine wpList_zeroK' (by rfl) rfl ?_)
      | (refine wpList_storeK rfl (.tmp 4) (.tmp 18) rfl (w.heap.size + 1) (fun _ => 0) (H2.out.dig (.head _)) (Below.refl _ _) rfl rfl ?_; intro w4 hw4)
    exact bodyPost_ret (v := .tuple #[d32 (fun _ => 0), .int .i64 100]) (results_cellTmp rfl rfl rfl (key_load hw4.out.1)) rfl ⟨rfl, H2.out.below.trans (hw4.out.2.mono (Nat.le_succ _))⟩

set_option linter.unusedSimpArgs false in
set_option linter.unusedVariables false in
set_option maxHeartbeats 4000000 in
set_option maxRecDepth 100000 in
theorem r10_shared_ok (r c x : Nat) (hr : r = 1 ∨ r = 2) (hc : c < 1000000) (h1 : 1 ≤ x) (h2 : x < 2305843009213688669) (peer : Nat) (hp : Gp.El peer) (w : World) :
    Calls Tryd.prog 43 #[.agg #[.int .i64 r, .int .i64 c, .int .i64 x], .int .i64 peer] w fun e w' => e = .returned (.tuple #[d32 (keyOf r c x peer), .int .i64 0]) ∧ Below w.heap.size w w' := by
  rcases hr with rfl | rfl
  · have HC := Lib.hid (fun w => r10_check 1 c x w)
    rw [show pChk 1 (c : Int) (x : Int) = 0 from ok_of (r := 1) (by decide) hc h1 h2] at HC
    have HP := Lib.hid (fun w => rcheck_any (peer : Int) w)
    rw [show Gp.gChk (peer : Int) = 0 by unfold Gp.gChk; rw [hp.is]; rfl] at HP
    have HPT := Lib.hid (fun w => r10_point_ok 1 c x (by decide) hc h1 h2 w)
    have HZ := Lib.hid (fun w => r10_element 1 c x (by decide) hc h2 peer hp w)
    have A8 := Lib.hid (show ppOf 1 c x < 9223372036854775808 ∧ peer < 9223372036854775808 ∧ shOf 1 c x peer < 9223372036854775808 from by
      have k1 := (pp_el 1 c x).2.1
      have k2 := hp.2.1
      have k3 : shOf 1 c x peer < 4611686018427377339 := Gp.pw_lt (by decide)
      omega)
    rw [keyOf_1]
    generalize shOf 1 c x peer = z at *
    generalize ppOf 1 c x = own at *
    have HTG := Lib.hid (fun (W : World) (p : Option Addr) (cap : Nat) (hy : Bytes W p (8 + 8 + 8) cap (Sha.cat (8 + 8) (Sha.cat 8 (by8 own) (by8 peer)) (by8 z))) => rtagged_any pakeT p (8 + 8 + 8) cap _ W hy (by decide) (by decide))
    rw [tag24] at HTG
    generalize Sha.tagged pakeT.size (sb pakeT) 24 (n8 own peer z) = k at *
    unfold d32 at HTG
    rw [show ((((1 : Nat)) : Int)) = 1 from rfl] at HPT HZ
    rw [show ((((1 : Nat)) : Int)) = 1 from rfl]
    clear hc h1 h2 hp
    go_enter Tryd.func43, Tryd.ntmps43
    go_upto_region 1 with fail
    change Code.wp Tryd.prog _ _ _ ((w.alloc (.cells #[.int .i64 1, .int .i64 c, .int .i64 x] 24)).alloc (.cells (List.replicate 32 (Value.int .u8 0)).toArray 37))
    have h1 := ((Hold.nil w).addSide 1 c x).keyNew 37
    rw [alloc_size] at h1
    have H1 := Lib.hid h1
    clear h1
    generalize (w.alloc (.cells #[.int .i64 1, .int .i64 c, .int .i64 x] 24)).alloc (.cells (List.replicate 32 (Value.int .u8 0)).toArray 37) = w1 at *
    have hs_s := H1.out.side (.tail _ (.head _))
    go_wp2_with fail
    refine (HC.out _).mono ?_
    rintro e w2 ⟨rfl, hb1⟩
    have H2 := Lib.hid (H1.out.next hb1 (Nat.le_refl _))
    clear hs_s hb1 H1 HC
    go_wp2_with fail
    refine (HP.out _).mono ?_
    rintro e w3 ⟨rfl, rfl⟩
    clear HP
    have hs_s := H2.out.side (.tail _ (.head _))
    go_wp2_with fail
    refine (HPT.out _).mono ?_
    rintro e w4 ⟨rfl, hb1⟩
    have H4 := Lib.hid (H2.out.next hb1 (Nat.le_refl _))
    clear hs_s hb1 H2 HPT
    have hs_s := H4.out.side (.tail _ (.head _))
    go_upto_region 8 with fail
    clear hs_s
    have HS0 := Lib.hid (fun (W : World) (hb : Below w4.heap.size w4 W) => show (W.cell? ⟨w.heap.size, 0, none⟩ = some (.int .i64 1) ∧ W.cell? ⟨w.heap.size, 1, none⟩ = some (.int .i64 (c : Int)) ∧ W.cell? ⟨w.heap.size, 2, none⟩ = some (.int .i64 (x : Int))) ∧ Below w4.heap.size w4 W from ⟨(H4.out.next hb (Nat.le_refl _)).side (.tail _ (.head _)), hb⟩)
    refine wp_region_held_drew (S := fun W => (W.cell? ⟨w.heap.size, 0, none⟩ = some (.int .i64 1) ∧ W.cell? ⟨w.heap.size, 1, none⟩ = some (.int .i64 (c : Int)) ∧ W.cell? ⟨w.heap.size, 2, none⟩ = some (.int .i64 (x : Int))) ∧ Below w4.heap.size w4 W) (by kernel_rfl) (HS0.out _ (Below.refl _ _).drew) (fun hH => ?_)
    refine wpAnyH_take (i := 0) (v := ?v0q1) rfl (by kernel_rfl) (by kernel_rfl) (by kernel_rfl) (fun _ _ _ h => h) (Or.inl ⟨by rfl, ?y0q1⟩) hH ?_
    case y0q1 => intro W hSw; go_simp; try with_reducible rfl
    try simp only [List.getElem_toArray, List.getElem_cons_succ, List.getElem_cons_zero, Act.put, List.setIfInBounds_toArray, List.set_cons_zero, List.set_cons_succ]
    refine wpAnyH_take (i := 2) (v := ?v2q1) rfl (by kernel_rfl) (by kernel_rfl) (by kernel_rfl) (fun _ _ _ h => h) (Or.inl ⟨by rfl, ?y2q1⟩) hH ?_
    case y2q1 => intro W hSw; go_simp; try with_reducible rfl
    try simp only [List.getElem_toArray, List.getElem_cons_succ, List.getElem_cons_zero, Act.put, List.setIfInBounds_toArray, List.set_cons_zero, List.set_cons_succ]
    refine wpAnyH_take (i := 5) (v := ?v5q1) rfl (by kernel_rfl) (by kernel_rfl) (by kernel_rfl) (fun _ _ _ h => h) (Or.inl ⟨by rfl, ?y5q1⟩) hH ?_
    case y5q1 => intro W hSw; go_simp; try with_reducible rfl
    try simp only [List.getElem_toArray, List.getElem_cons_succ, List.getElem_cons_zero, Act.put, List.setIfInBounds_toArray, List.set_cons_zero, List.set_cons_succ]
    refine wpAnyH_take (i := 6) (v := ?v6q1) rfl (by kernel_rfl) (by kernel_rfl) (by kernel_rfl) (fun _ _ _ h => h) (Or.inl ⟨by rfl, ?y6q1⟩) hH ?_
    case y6q1 => intro W hSw; go_simp; try with_reducible rfl
    try simp only [List.getElem_toArray, List.getElem_cons_succ, List.getElem_cons_zero, Act.put, List.setIfInBounds_toArray, List.set_cons_zero, List.set_cons_succ]
    have HB := Lib.hid hH.2
    clear hH
    generalize w4.drew = x0 at *
    refine wpAnyH_ready (rs := [1]) (by kernel_rfl) (by simp) (AllReadyH.cons rfl (fun K hK => ?_) AllReadyH.nil)
    go_simp
    refine (r10_eight own A8.out.1 _).mono ?_
    rintro e x1 ⟨v1, rfl, hr1, hb1⟩
    go_wp2_with fail
    have F1 := Lib.hid (own_le hr1 HB.out.size)
    replace HB := Lib.hid (HB.out.trans (hb1.mono HB.out.size))
    clear hr1 hb1
    refine hK.out _ _ (HS0.out _ HB.out) (fun _ => ?_)
    clear hK
    try simp only [List.getElem_toArray, List.getElem_cons_succ, List.getElem_cons_zero, Act.put, List.setIfInBounds_toArray, List.set_cons_zero, List.set_cons_succ]
    refine wpAnyH_ready (rs := [3]) (by kernel_rfl) (by simp) (AllReadyH.cons rfl (fun K hK => ?_) AllReadyH.nil)
    go_simp
    refine (r10_eight peer A8.out.2.1 _).mono ?_
    rintro e x2 ⟨v2, rfl, hr2, hb1⟩
    go_wp2_with fail
    obtain ⟨p2, cc2, rfl, hy2, hc2⟩ := Bytes.own hr2 (fun i hi => bl_get _ _ i hi) (fun i _ => by8_lt _ _)
    replace F1 := Lib.hid (owns_below F1.out hb1 (Nat.le_refl _))
    have F2 := Lib.hid hy2
    replace HB := Lib.hid (HB.out.trans (hb1.mono HB.out.size))
    clear hr2 hb1 hy2 hc2
    refine hK.out _ _ (HS0.out _ HB.out) (fun _ => ?_)
    clear hK
    try simp only [List.getElem_toArray, List.getElem_cons_succ, List.getElem_cons_zero, Act.put, List.setIfInBounds_toArray, List.set_cons_zero, List.set_cons_succ]
    refine wpAnyH_ready (rs := [4]) (by kernel_rfl) (by simp) (AllReadyH.cons rfl (fun K hK => ?_) AllReadyH.nil)
    refine st_appP rfl (.tmp 31) (.tmp 33) rfl w4.heap.size v1 8 _ rfl F1.out p2 8 cc2 _ rfl F2.out (by decide) (by decide) HB.out.size ?_
    intro v3 x3 hz
    have ho := hz.out.1
    rw [bl_cat] at ho
    have F3 := Lib.hid ho
    replace HB := Lib.hid (HB.out.trans hz.out.2)
    clear F1 F2 ho hz
    refine hK.out _ _ (HS0.out _ HB.out) (fun _ => ?_)
    clear hK
    try simp only [List.getElem_toArray, List.getElem_cons_succ, List.getElem_cons_zero, Act.put, List.setIfInBounds_toArray, List.set_cons_zero, List.set_cons_succ]
    refine wpAnyH_ready (rs := [7]) (by kernel_rfl) (by simp) (AllReadyH.cons rfl (fun K hK => ?_) AllReadyH.nil)
    go_simp
    refine (HZ.out _).mono ?_
    rintro e x4 ⟨rfl, hb1⟩
    go_wp2_with fail
    replace F3 := Lib.hid (owns_below F3.out hb1 (Nat.le_refl _))
    replace HB := Lib.hid (HB.out.trans (hb1.mono HB.out.size))
    clear hb1 HZ
    refine hK.out _ _ (HS0.out _ HB.out) (fun _ => ?_)
    clear hK
    try simp only [List.getElem_toArray, List.getElem_cons_succ, List.getElem_cons_zero, Act.put, List.setIfInBounds_toArray, List.set_cons_zero, List.set_cons_succ]
    refine wpAnyH_ready (rs := [8]) (by kernel_rfl) (by simp) (AllReadyH.cons rfl (fun K hK => ?_) AllReadyH.nil)
    go_simp
    refine (r10_eight z A8.out.2.2 _).mono ?_
    rintro e x5 ⟨v5, rfl, hr5, hb1⟩
    go_wp2_with fail
    obtain ⟨p5, cc5, rfl, hy5, hc5⟩ := Bytes.own hr5 (fun i hi => bl_get _ _ i hi) (fun i _ => by8_lt _ _)
    replace F3 := Lib.hid (owns_below F3.out hb1 (Nat.le_refl _))
    have F5 := Lib.hid hy5
    replace HB := Lib.hid (HB.out.trans (hb1.mono HB.out.size))
    clear hr5 hb1 hy5 hc5
    refine hK.out _ _ (HS0.out _ HB.out) (fun _ => ?_)
    clear hK
    try simp only [List.getElem_toArray, List.getElem_cons_succ, List.getElem_cons_zero, Act.put, List.setIfInBounds_toArray, List.set_cons_zero, List.set_cons_succ]
    refine wpAnyH_ready (rs := [9]) (by kernel_rfl) (by simp) (AllReadyH.cons rfl (fun K hK => ?_) AllReadyH.nil)
    refine st_appP rfl (.tmp 34) (.tmp 38) rfl w4.heap.size v3 (8 + 8) _ rfl F3.out p5 8 cc5 _ rfl F5.out (by decide) (by decide) HB.out.size ?_
    intro v6 x6 hz
    have ho := hz.out.1
    rw [bl_cat] at ho
    obtain ⟨p7, c7, rfl, hy7, hc7⟩ := Bytes.own ho (fun i hi => bl_get _ _ i hi) (fun i _ => cat24_lt own peer z i)
    have F7 := Lib.hid hy7
    replace HB := Lib.hid (HB.out.trans hz.out.2)
    clear F3 F5 ho hz hy7 hc7
    refine hK.out _ _ (HS0.out _ HB.out) (fun hH => ?_)
    clear hK
    try simp only [List.getElem_toArray, List.getElem_cons_succ, List.getElem_cons_zero, Act.put, List.setIfInBounds_toArray, List.set_cons_zero, List.set_cons_succ]
    refine wpAnyH_take (i := 10) (v := ?v10q1) rfl (by kernel_rfl) (by kernel_rfl) (by kernel_rfl) (fun _ _ _ h => h) (Or.inl ⟨by rfl, ?y10q1⟩) hH ?_
    case y10q1 => intro W hSw; go_simp; try with_reducible rfl
    try simp only [List.getElem_toArray, List.getElem_cons_succ, List.getElem_cons_zero, Act.put, List.setIfInBounds_toArray, List.set_cons_zero, List.set_cons_succ]
    refine wpAnyH_done (by kernel_rfl) ?_ _
    have H6 := Lib.hid (H4.out.next HB.out (Nat.le_refl _))
    clear hH HS0 HB H4
    go_wp2_with fail
    refine (HTG.out _ p7 c7 F7.out).mono ?_
    rintro e w8 ⟨rfl, hb1⟩
    have H8 := Lib.hid (H6.out.next hb1 (Nat.le_refl _))
    clear hb1 HTG F7 H6
    go_wp2_with (refine wpList_storeK rfl (.tmp 4) (.tmp 41) rfl (w.heap.size + 1) k (H8.out.dig (.head _)) (Below.refl _ _) rfl rfl ?_; intro w9 hw9)
    exact bodyPost_ret (v := .tuple #[d32 k, .int .i64 0]) (results_cellTmp rfl rfl rfl (key_load hw9.out.1)) rfl ⟨rfl, H8.out.below.trans (hw9.out.2.mono (Nat.le_succ _))⟩
  · have HC := Lib.hid (fun w => r10_check 2 c x w)
    rw [show pChk 2 (c : Int) (x : Int) = 0 from ok_of (r := 2) (by decide) hc h1 h2] at HC
    have HP := Lib.hid (fun w => rcheck_any (peer : Int) w)
    rw [show Gp.gChk (peer : Int) = 0 by unfold Gp.gChk; rw [hp.is]; rfl] at HP
    have HPT := Lib.hid (fun w => r10_point_ok 2 c x (by decide) hc h1 h2 w)
    have HZ := Lib.hid (fun w => r10_element 2 c x (by decide) hc h2 peer hp w)
    have A8 := Lib.hid (show ppOf 2 c x < 9223372036854775808 ∧ peer < 9223372036854775808 ∧ shOf 2 c x peer < 9223372036854775808 from by
      have k1 := (pp_el 2 c x).2.1
      have k2 := hp.2.1
      have k3 : shOf 2 c x peer < 4611686018427377339 := Gp.pw_lt (by decide)
      omega)
    rw [keyOf_2]
    generalize shOf 2 c x peer = z at *
    generalize ppOf 2 c x = own at *
    have HTG := Lib.hid (fun (W : World) (p : Option Addr) (cap : Nat) (hy : Bytes W p (8 + 8 + 8) cap (Sha.cat (8 + 8) (Sha.cat 8 (by8 peer) (by8 own)) (by8 z))) => rtagged_any pakeT p (8 + 8 + 8) cap _ W hy (by decide) (by decide))
    rw [tag24] at HTG
    generalize Sha.tagged pakeT.size (sb pakeT) 24 (n8 peer own z) = k at *
    unfold d32 at HTG
    rw [show ((((2 : Nat)) : Int)) = 2 from rfl] at HPT HZ
    rw [show ((((2 : Nat)) : Int)) = 2 from rfl]
    clear hc h1 h2 hp
    go_enter Tryd.func43, Tryd.ntmps43
    go_upto_region 1 with fail
    change Code.wp Tryd.prog _ _ _ ((w.alloc (.cells #[.int .i64 2, .int .i64 c, .int .i64 x] 24)).alloc (.cells (List.replicate 32 (Value.int .u8 0)).toArray 37))
    have h1 := ((Hold.nil w).addSide 2 c x).keyNew 37
    rw [alloc_size] at h1
    have H1 := Lib.hid h1
    clear h1
    generalize (w.alloc (.cells #[.int .i64 2, .int .i64 c, .int .i64 x] 24)).alloc (.cells (List.replicate 32 (Value.int .u8 0)).toArray 37) = w1 at *
    have hs_s := H1.out.side (.tail _ (.head _))
    go_wp2_with fail
    refine (HC.out _).mono ?_
    rintro e w2 ⟨rfl, hb1⟩
    have H2 := Lib.hid (H1.out.next hb1 (Nat.le_refl _))
    clear hs_s hb1 H1 HC
    go_wp2_with fail
    refine (HP.out _).mono ?_
    rintro e w3 ⟨rfl, rfl⟩
    clear HP
    have hs_s := H2.out.side (.tail _ (.head _))
    go_wp2_with fail
    refine (HPT.out _).mono ?_
    rintro e w4 ⟨rfl, hb1⟩
    have H4 := Lib.hid (H2.out.next hb1 (Nat.le_refl _))
    clear hs_s hb1 H2 HPT
    have hs_s := H4.out.side (.tail _ (.head _))
    go_upto_region 8 with fail
    clear hs_s
    have HS0 := Lib.hid (fun (W : World) (hb : Below w4.heap.size w4 W) => show (W.cell? ⟨w.heap.size, 0, none⟩ = some (.int .i64 2) ∧ W.cell? ⟨w.heap.size, 1, none⟩ = some (.int .i64 (c : Int)) ∧ W.cell? ⟨w.heap.size, 2, none⟩ = some (.int .i64 (x : Int))) ∧ Below w4.heap.size w4 W from ⟨(H4.out.next hb (Nat.le_refl _)).side (.tail _ (.head _)), hb⟩)
    refine wp_region_held_drew (S := fun W => (W.cell? ⟨w.heap.size, 0, none⟩ = some (.int .i64 2) ∧ W.cell? ⟨w.heap.size, 1, none⟩ = some (.int .i64 (c : Int)) ∧ W.cell? ⟨w.heap.size, 2, none⟩ = some (.int .i64 (x : Int))) ∧ Below w4.heap.size w4 W) (by kernel_rfl) (HS0.out _ (Below.refl _ _).drew) (fun hH => ?_)
    refine wpAnyH_take (i := 0) (v := ?v0q2) rfl (by kernel_rfl) (by kernel_rfl) (by kernel_rfl) (fun _ _ _ h => h) (Or.inl ⟨by rfl, ?y0q2⟩) hH ?_
    case y0q2 => intro W hSw; go_simp; try with_reducible rfl
    try simp only [List.getElem_toArray, List.getElem_cons_succ, List.getElem_cons_zero, Act.put, List.setIfInBounds_toArray, List.set_cons_zero, List.set_cons_succ]
    refine wpAnyH_take (i := 2) (v := ?v2q2) rfl (by kernel_rfl) (by kernel_rfl) (by kernel_rfl) (fun _ _ _ h => h) (Or.inl ⟨by rfl, ?y2q2⟩) hH ?_
    case y2q2 => intro W hSw; go_simp; try with_reducible rfl
    try simp only [List.getElem_toArray, List.getElem_cons_succ, List.getElem_cons_zero, Act.put, List.setIfInBounds_toArray, List.set_cons_zero, List.set_cons_succ]
    refine wpAnyH_take (i := 5) (v := ?v5q2) rfl (by kernel_rfl) (by kernel_rfl) (by kernel_rfl) (fun _ _ _ h => h) (Or.inl ⟨by rfl, ?y5q2⟩) hH ?_
    case y5q2 => intro W hSw; go_simp; try with_reducible rfl
    try simp only [List.getElem_toArray, List.getElem_cons_succ, List.getElem_cons_zero, Act.put, List.setIfInBounds_toArray, List.set_cons_zero, List.set_cons_succ]
    refine wpAnyH_take (i := 6) (v := ?v6q2) rfl (by kernel_rfl) (by kernel_rfl) (by kernel_rfl) (fun _ _ _ h => h) (Or.inl ⟨by rfl, ?y6q2⟩) hH ?_
    case y6q2 => intro W hSw; go_simp; try with_reducible rfl
    try simp only [List.getElem_toArray, List.getElem_cons_succ, List.getElem_cons_zero, Act.put, List.setIfInBounds_toArray, List.set_cons_zero, List.set_cons_succ]
    have HB := Lib.hid hH.2
    clear hH
    generalize w4.drew = x0 at *
    refine wpAnyH_ready (rs := [1]) (by kernel_rfl) (by simp) (AllReadyH.cons rfl (fun K hK => ?_) AllReadyH.nil)
    go_simp
    refine (r10_eight peer A8.out.2.1 _).mono ?_
    rintro e x1 ⟨v1, rfl, hr1, hb1⟩
    go_wp2_with fail
    have F1 := Lib.hid (own_le hr1 HB.out.size)
    replace HB := Lib.hid (HB.out.trans (hb1.mono HB.out.size))
    clear hr1 hb1
    refine hK.out _ _ (HS0.out _ HB.out) (fun _ => ?_)
    clear hK
    try simp only [List.getElem_toArray, List.getElem_cons_succ, List.getElem_cons_zero, Act.put, List.setIfInBounds_toArray, List.set_cons_zero, List.set_cons_succ]
    refine wpAnyH_ready (rs := [3]) (by kernel_rfl) (by simp) (AllReadyH.cons rfl (fun K hK => ?_) AllReadyH.nil)
    go_simp
    refine (r10_eight own A8.out.1 _).mono ?_
    rintro e x2 ⟨v2, rfl, hr2, hb1⟩
    go_wp2_with fail
    obtain ⟨p2, cc2, rfl, hy2, hc2⟩ := Bytes.own hr2 (fun i hi => bl_get _ _ i hi) (fun i _ => by8_lt _ _)
    replace F1 := Lib.hid (owns_below F1.out hb1 (Nat.le_refl _))
    have F2 := Lib.hid hy2
    replace HB := Lib.hid (HB.out.trans (hb1.mono HB.out.size))
    clear hr2 hb1 hy2 hc2
    refine hK.out _ _ (HS0.out _ HB.out) (fun _ => ?_)
    clear hK
    try simp only [List.getElem_toArray, List.getElem_cons_succ, List.getElem_cons_zero, Act.put, List.setIfInBounds_toArray, List.set_cons_zero, List.set_cons_succ]
    refine wpAnyH_ready (rs := [4]) (by kernel_rfl) (by simp) (AllReadyH.cons rfl (fun K hK => ?_) AllReadyH.nil)
    refine st_appP rfl (.tmp 31) (.tmp 33) rfl w4.heap.size v1 8 _ rfl F1.out p2 8 cc2 _ rfl F2.out (by decide) (by decide) HB.out.size ?_
    intro v3 x3 hz
    have ho := hz.out.1
    rw [bl_cat] at ho
    have F3 := Lib.hid ho
    replace HB := Lib.hid (HB.out.trans hz.out.2)
    clear F1 F2 ho hz
    refine hK.out _ _ (HS0.out _ HB.out) (fun _ => ?_)
    clear hK
    try simp only [List.getElem_toArray, List.getElem_cons_succ, List.getElem_cons_zero, Act.put, List.setIfInBounds_toArray, List.set_cons_zero, List.set_cons_succ]
    refine wpAnyH_ready (rs := [7]) (by kernel_rfl) (by simp) (AllReadyH.cons rfl (fun K hK => ?_) AllReadyH.nil)
    go_simp
    refine (HZ.out _).mono ?_
    rintro e x4 ⟨rfl, hb1⟩
    go_wp2_with fail
    replace F3 := Lib.hid (owns_below F3.out hb1 (Nat.le_refl _))
    replace HB := Lib.hid (HB.out.trans (hb1.mono HB.out.size))
    clear hb1 HZ
    refine hK.out _ _ (HS0.out _ HB.out) (fun _ => ?_)
    clear hK
    try simp only [List.getElem_toArray, List.getElem_cons_succ, List.getElem_cons_zero, Act.put, List.setIfInBounds_toArray, List.set_cons_zero, List.set_cons_succ]
    refine wpAnyH_ready (rs := [8]) (by kernel_rfl) (by simp) (AllReadyH.cons rfl (fun K hK => ?_) AllReadyH.nil)
    go_simp
    refine (r10_eight z A8.out.2.2 _).mono ?_
    rintro e x5 ⟨v5, rfl, hr5, hb1⟩
    go_wp2_with fail
    obtain ⟨p5, cc5, rfl, hy5, hc5⟩ := Bytes.own hr5 (fun i hi => bl_get _ _ i hi) (fun i _ => by8_lt _ _)
    replace F3 := Lib.hid (owns_below F3.out hb1 (Nat.le_refl _))
    have F5 := Lib.hid hy5
    replace HB := Lib.hid (HB.out.trans (hb1.mono HB.out.size))
    clear hr5 hb1 hy5 hc5
    refine hK.out _ _ (HS0.out _ HB.out) (fun _ => ?_)
    clear hK
    try simp only [List.getElem_toArray, List.getElem_cons_succ, List.getElem_cons_zero, Act.put, List.setIfInBounds_toArray, List.set_cons_zero, List.set_cons_succ]
    refine wpAnyH_ready (rs := [9]) (by kernel_rfl) (by simp) (AllReadyH.cons rfl (fun K hK => ?_) AllReadyH.nil)
    refine st_appP rfl (.tmp 34) (.tmp 38) rfl w4.heap.size v3 (8 + 8) _ rfl F3.out p5 8 cc5 _ rfl F5.out (by decide) (by decide) HB.out.size ?_
    intro v6 x6 hz
    have ho := hz.out.1
    rw [bl_cat] at ho
    obtain ⟨p7, c7, rfl, hy7, hc7⟩ := Bytes.own ho (fun i hi => bl_get _ _ i hi) (fun i _ => cat24_lt peer own z i)
    have F7 := Lib.hid hy7
    replace HB := Lib.hid (HB.out.trans hz.out.2)
    clear F3 F5 ho hz hy7 hc7
    refine hK.out _ _ (HS0.out _ HB.out) (fun hH => ?_)
    clear hK
    try simp only [List.getElem_toArray, List.getElem_cons_succ, List.getElem_cons_zero, Act.put, List.setIfInBounds_toArray, List.set_cons_zero, List.set_cons_succ]
    refine wpAnyH_take (i := 10) (v := ?v10q2) rfl (by kernel_rfl) (by kernel_rfl) (by kernel_rfl) (fun _ _ _ h => h) (Or.inl ⟨by rfl, ?y10q2⟩) hH ?_
    case y10q2 => intro W hSw; go_simp; try with_reducible rfl
    try simp only [List.getElem_toArray, List.getElem_cons_succ, List.getElem_cons_zero, Act.put, List.setIfInBounds_toArray, List.set_cons_zero, List.set_cons_succ]
    refine wpAnyH_done (by kernel_rfl) ?_ _
    have H6 := Lib.hid (H4.out.next HB.out (Nat.le_refl _))
    clear hH HS0 HB H4
    go_wp2_with fail
    refine (HTG.out _ p7 c7 F7.out).mono ?_
    rintro e w8 ⟨rfl, hb1⟩
    have H8 := Lib.hid (H6.out.next hb1 (Nat.le_refl _))
    clear hb1 HTG F7 H6
    go_wp2_with (refine wpList_storeK rfl (.tmp 4) (.tmp 41) rfl (w.heap.size + 1) k (H8.out.dig (.head _)) (Below.refl _ _) rfl rfl ?_; intro w9 hw9)
    exact bodyPost_ret (v := .tuple #[d32 k, .int .i64 0]) (results_cellTmp rfl rfl rfl (key_load hw9.out.1)) rfl ⟨rfl, H8.out.below.trans (hw9.out.2.mono (Nat.le_succ _))⟩

set_option maxHeartbeats 4000000 in
set_option maxRecDepth 100000 in
theorem r10_proof (k : Nat → Nat) (hk : ∀ i, i < 32 → k i < 256) (r : Nat) (hr : r < 256) (w : World) :
    Calls Tryd.prog 80 #[d32 k, .int .i64 (r : Int)] w fun e w' => e = .returned (d32 (prOf k r)) ∧ Below w.heap.size w w' := by
  have e1 : IntKind.u8.wrap (r : Int) = (r : Int) := by
    simp only [IntKind.wrap, IntKind.bits, IntKind.signed]; simp; omega
  have HK := Lib.hid hk
  have HR := Lib.hid hr
  clear hk hr
  rw [show d32 k = Value.agg (c32 k).toArray from rfl]
  go_enter Tryd.func80, Tryd.ntmps80
  go_upto_region 1 with fail
  change Code.wp Tryd.prog _ _ _ ((w.alloc (.cells (c32 k).toArray 37)).alloc (.cells (List.replicate 32 (Value.int .u8 0)).toArray 44))
  have hG := RG.first w k 37
  generalize (w.alloc (.cells (c32 k).toArray 37)).alloc (.cells (List.replicate 32 (Value.int .u8 0)).toArray 44) = w1 at *
  have HG := Lib.hid hG
  clear hG
  have hsl := fun W => run_slice_key W w.heap.size
  have hE := Lib.hid (owns_empty w1)
  have HE2 := Lib.hid ((Below.refl w1.heap.size w1).alloc (Nat.le_refl _) (.cells #[] 5))
  have HKB := Lib.hid (show Bytes (w1.alloc (.cells #[] 5)) (some ⟨w.heap.size, 0, none⟩) 32 32 k from ⟨fun _ => ⟨w.heap.size, 0, rfl, by have := (HG.out.next HE2.out (Nat.le_refl _)).z; omega, (HG.out.next HE2.out (Nat.le_refl _)).k.reads⟩, HK.out, Nat.le_refl _, fun e => by cases e⟩)
  go_wp2_with first
    | (at_builtin; refine wpList_append_b _ rfl (.tmp 5) (.tmp 6) rfl _ _ 0 _ rfl hE.out (some ⟨w.heap.size, 0, none⟩) 32 32 k rfl HKB.out (by omega) HE2.out.size ?_; intro v2 w2 ho2)
    | (at_builtin; refine wpList_append_b _ rfl (.tmp 7) (.tmp 10) rfl w1.heap.size _ (0 + 32) _ rfl (ho2.out.1.alloc _) _ 1 1 (fun _ => r) rfl (byte_new _ r HR.out) (by omega) (by have h1 := ho2.out.2.size; have h2 := HE2.out.size; rw [alloc_size w2]; omega) ?_; intro v3 w3 ho3)
  have ho := ho3.out.1
  rw [List.nil_append, bl_cat] at ho
  have hBB := HE2.out.trans ho2.out.2
  have HG3 := Lib.hid (HG.out.next ((hBB.alloc hBB.size (.cells #[.int .u8 (r : Int)] 5)).trans ho3.out.2) (Nat.le_refl _))
  obtain ⟨p2, c2, rfl, hb2, hc2⟩ := Bytes.own ho (fun i hi => bl_get _ _ i (by omega)) (fun i hi => cat33_lt HK.out HR.out i (by omega))
  have HTG := Lib.hid (rtagged_any proofT p2 (0 + 32 + 1) c2 (Sha.cat 32 k (fun _ => r)) w3 hb2 (by decide) (by decide))
  obtain ⟨G, hGe⟩ : ∃ G, G = Sha.tagged proofT.size (sb proofT) (0 + 32 + 1) (Sha.cat 32 k (fun _ => r)) := ⟨_, rfl⟩
  rw [← hGe] at HTG
  have HGE := Lib.hid hGe
  unfold d32 at HTG
  clear hb2 hc2 hGe HKB ho2 ho3 ho hBB HG hE HE2 HK
  go_wp2_with fail
  refine HTG.out.mono ?_
  rintro e w4 ⟨rfl, hb1⟩
  have hG4 := Lib.hid (HG3.out.next hb1 (Nat.le_refl _))
  clear hb1 HTG HG3
  go_wp2_with (refine wpList_store_mid rfl 44 (.tmp 4) (.tmp 12) rfl (w.heap.size + 1) 0 (c32 G).toArray rfl rfl (by rw [c32_size]; exact there32 hG4.out.d) (by rw [c32_size]; exact info32) (c32_one _) ?_)
  have hst := range32 (hG4.out.d.store (g := G)).reads
  refine bodyPost_ret (v := d32 G) (results_cell rfl rfl (run_loadVar_mid _ (w.heap.size + 1) 0 44 (c32 G) (.array 32 5) hst under32 rfl (by rw [c32_length]; exact info32))) rfl ⟨?_, ?_⟩
  · rw [HGE.out]; rfl
  · exact below_cells (by omega) _ _ _ hG4.out.below

set_option maxHeartbeats 4000000 in
set_option maxRecDepth 100000 in
theorem r10_proved_bad (r c x peer : Int) (h : (okSide r c x && Gp.isEl peer) = false) (w : World) :
    Calls Tryd.prog 45 #[.agg #[.int .i64 r, .int .i64 c, .int .i64 x], .int .i64 peer] w fun e w' => e = .returned (.tuple #[d32 (fun _ => 0), .int .i64 100]) ∧ Below w.heap.size w w' := by
  have HS := Lib.hid (fun (W : World) (_ : Below w.heap.size w W) => r10_shared_bad r c x peer h W)
  clear h
  go_enter Tryd.func45, Tryd.ntmps45
  go_upto_region 1 with fail
  change Code.wp Tryd.prog _ _ _ ((w.alloc (.cells #[.int .i64 r, .int .i64 c, .int .i64 x] 24)).alloc (.cells (List.replicate 32 (Value.int .u8 0)).toArray 44))
  have hK := QG.first w r c x (fun _ => 0) (List.replicate 32 (Value.int .u8 0)) fun i hi => by rw [List.getElem?_replicate, if_pos hi]; rfl
  generalize (w.alloc (.cells #[.int .i64 r, .int .i64 c, .int .i64 x] 24)).alloc (.cells (List.replicate 32 (Value.int .u8 0)).toArray 44) = w1 at *
  have hS := hK.p.all
  unfold PS at hS
  have HK := Lib.hid hK
  clear hK
  go_wp2_with fail
  refine (HS.out _ HK.out.p.below).mono ?_
  rintro e w2 ⟨rfl, hb1⟩
  have HK2 := Lib.hid (HK.out.next hb1 (Nat.le_refl _))
  clear hb1 hS HK HS
  unfold d32
  go_upto_region 2 with first
    | (refine wpList_allocK rfl rfl ?_; intro w3 hw3)
    | (refine wpList_store_mid rfl 37 (.tmp 6) (.tmp 12) rfl w2.heap.size 0 (c32 (fun _ => 0)).toArray rfl rfl ?_ (key_size _) (c32_one _) ?_; · exact there_c32 hw3.out.1 _)
  have hT := TG.first (k := fun _ => 0) HK2.out hw3.out.1 hw3.out.2.1 hw3.out.2.2
  have HT := Lib.hid hT
  clear hT hw3 HK2
  generalize w3.setCells w2.heap.size 0 (c32 (fun _ => 0)) = w4 at *
  go_wp2_with first
    | (refine wpList_zeroD' (by rfl) rfl ?_)
    | (refine wpList_store_mid rfl 44 (.tmp 4) (.tmp 16) rfl (w.heap.size + 1) 0 (c32 (fun _ => 0)).toArray rfl rfl (there_c32 HT.out.q.d _) (dig_size _) (c32_one _) ?_)
  have hst := range32 (HT.out.q.d.store (g := fun _ => 0)).reads
  refine bodyPost_ret (v := .tuple #[d32 (fun _ => 0), .int .i64 100]) (results_cellTmp rfl rfl rfl (run_loadVar_mid _ (w.heap.size + 1) 0 44 (c32 (fun _ => 0)) (.array 32 5) hst under32 rfl (info_dig' _))) rfl ⟨?_, ?_⟩
  · rfl
  · exact below_cells (by omega) _ _ _ HT.out.q.p.below

set_option maxHeartbeats 4000000 in
set_option maxRecDepth 100000 in
theorem r10_proved_ok (r c x : Nat) (hr : r = 1 ∨ r = 2) (hc : c < 1000000) (h1 : 1 ≤ x) (h2 : x < 2305843009213688669) (peer : Nat) (hp : Gp.El peer) (w : World) :
    Calls Tryd.prog 45 #[.agg #[.int .i64 r, .int .i64 c, .int .i64 x], .int .i64 peer] w fun e w' => e = .returned (.tuple #[d32 (prOf (keyOf r c x peer) r), .int .i64 0]) ∧ Below w.heap.size w w' := by
  have HS := Lib.hid (fun (W : World) (_ : Below w.heap.size w W) => r10_shared_ok r c x hr hc h1 h2 peer hp W)
  have HP := Lib.hid (fun (W : World) (_ : Below w.heap.size w W) => r10_proof (keyOf r c x peer) (key_lt r c x peer) r (by omega) W)
  clear hr hc h1 h2 hp
  generalize keyOf r c x peer = k at *
  go_enter Tryd.func45, Tryd.ntmps45
  go_upto_region 1 with fail
  change Code.wp Tryd.prog _ _ _ ((w.alloc (.cells #[.int .i64 r, .int .i64 c, .int .i64 x] 24)).alloc (.cells (List.replicate 32 (Value.int .u8 0)).toArray 44))
  have hK := QG.first w r c x (fun _ => 0) (List.replicate 32 (Value.int .u8 0)) fun i hi => by rw [List.getElem?_replicate, if_pos hi]; rfl
  generalize (w.alloc (.cells #[.int .i64 r, .int .i64 c, .int .i64 x] 24)).alloc (.cells (List.replicate 32 (Value.int .u8 0)).toArray 44) = w1 at *
  have hS := hK.p.all
  unfold PS at hS
  have HK := Lib.hid hK
  clear hK
  go_wp2_with fail
  refine (HS.out _ HK.out.p.below).mono ?_
  rintro e w2 ⟨rfl, hb1⟩
  have HK2 := Lib.hid (HK.out.next hb1 (Nat.le_refl _))
  clear hb1 hS HK HS
  unfold d32
  unfold d32 at HP
  go_upto_region 2 with first
    | (refine wpList_allocK rfl rfl ?_; intro w3 hw3)
    | (refine wpList_store_mid rfl 37 (.tmp 6) (.tmp 12) rfl w2.heap.size 0 (c32 k).toArray rfl rfl ?_ (key_size _) (c32_one _) ?_; · exact there_c32 hw3.out.1 _)
  have hT := TG.first (k := k) HK2.out hw3.out.1 hw3.out.2.1 hw3.out.2.2
  have HT := Lib.hid hT
  clear hT hw3 HK2
  generalize w3.setCells w2.heap.size 0 (c32 k) = w4 at *
  have hS := HT.out.all
  unfold TGS at hS
  have hS := hS.1.2.2
  generalize w2.heap.size = K at *
  obtain ⟨G, hGe⟩ : ∃ G, G = prOf k r := ⟨_, rfl⟩
  rw [← hGe] at HP
  have HGE := Lib.hid hGe
  clear hGe
  go_wp2_with first
    | (refine wpList_load_mid rfl 37 (.tmp 6) rfl K 0 rfl (c32 k) (.array 32 5) (range32 HT.out.k.reads) under_key rfl (info_key' _) ?_)
  refine (HP.out _ HT.out.q.p.below).mono ?_
  rintro e w5 ⟨rfl, hb1⟩
  have HT5 := Lib.hid (HT.out.next hb1 (Nat.le_refl _))
  clear hb1 hS HT HP
  go_wp2_with first
    | (refine wpList_store_mid rfl 44 (.tmp 4) (.tmp 21) rfl (w.heap.size + 1) 0 (c32 G).toArray rfl rfl (there_c32 HT5.out.q.d _) (dig_size _) (c32_one _) ?_)
  have hst := range32 (HT5.out.q.d.store (g := G)).reads
  refine bodyPost_ret (v := .tuple #[d32 G, .int .i64 0]) (results_cellTmp rfl rfl rfl (run_loadVar_mid _ (w.heap.size + 1) 0 44 (c32 G) (.array 32 5) hst under32 rfl (info_dig' _))) rfl ⟨?_, ?_⟩
  · rw [HGE.out]
  · exact below_cells (by omega) _ _ _ HT5.out.q.p.below

set_option maxHeartbeats 4000000 in
set_option maxRecDepth 100000 in
theorem r10_accept_bad (r c x peer : Int) (g : Nat → Nat) (h : (okSide r c x && Gp.isEl peer) = false) (w : World) :
    Calls Tryd.prog 47 #[.agg #[.int .i64 r, .int .i64 c, .int .i64 x], .int .i64 peer, d32 g] w fun e w' => e = .returned (.tuple #[.bool false, .int .i64 100]) ∧ Below w.heap.size w w' := by
  have HS := Lib.hid (fun (W : World) (_ : Below w.heap.size w W) => r10_shared_bad r c x peer h W)
  clear h
  rw [show d32 g = Value.agg (c32 g).toArray from rfl]
  go_enter Tryd.func47, Tryd.ntmps47
  go_upto_region 1 with fail
  change Code.wp Tryd.prog _ _ _ ((w.alloc (.cells #[.int .i64 r, .int .i64 c, .int .i64 x] 24)).alloc (.cells (c32 g).toArray 44))
  have hK := QG.first w r c x g (c32 g) fun i hi => c32_get g i hi
  generalize (w.alloc (.cells #[.int .i64 r, .int .i64 c, .int .i64 x] 24)).alloc (.cells (c32 g).toArray 44) = w1 at *
  have hS := hK.p.all
  unfold PS at hS
  have HK := Lib.hid hK
  clear hK
  go_wp2_with fail
  refine (HS.out _ HK.out.p.below).mono ?_
  rintro e w2 ⟨rfl, hb1⟩
  have HK2 := Lib.hid (HK.out.next hb1 (Nat.le_refl _))
  clear hb1 hS HK HS
  unfold d32
  go_upto_region 2 with first
    | (refine wpList_allocK rfl rfl ?_; intro w3 hw3)
    | (refine wpList_store_mid rfl 37 (.tmp 8) (.tmp 14) rfl w2.heap.size 0 (c32 (fun _ => 0)).toArray rfl rfl ?_ (key_size _) (c32_one _) ?_; · exact there_c32 hw3.out.1 _)
  have hT := TG.first (k := fun _ => 0) HK2.out hw3.out.1 hw3.out.2.1 hw3.out.2.2
  have HT := Lib.hid hT
  clear hT hw3 HK2
  generalize w3.setCells w2.heap.size 0 (c32 (fun _ => 0)) = w4 at *
  go_wp2_with fail
  go_ret2
  exact ⟨rfl, HT.out.q.p.below⟩

set_option linter.unusedSimpArgs false in
set_option maxHeartbeats 4000000 in
set_option maxRecDepth 100000 in
theorem r10_accept_ok (r c x : Nat) (hr : r = 1 ∨ r = 2) (hc : c < 1000000) (h1 : 1 ≤ x) (h2 : x < 2305843009213688669) (peer : Nat) (hp : Gp.El peer) (g : Nat → Nat) (hg : ∀ i, i < 32 → g i < 256) (w : World) :
    Calls Tryd.prog 47 #[.agg #[.int .i64 r, .int .i64 c, .int .i64 x], .int .i64 peer, d32 g] w fun e w' => e = .returned (.tuple #[.bool (eqB g (prOf (keyOf r c x peer) (3 - r))), .int .i64 0]) ∧ Below w.heap.size w w' := by
  have HS := Lib.hid (fun (W : World) (_ : Below w.heap.size w W) => r10_shared_ok r c x hr hc h1 h2 peer hp W)
  obtain ⟨q, hq⟩ : ∃ q, q = 3 - r := ⟨_, rfl⟩
  have HP := Lib.hid (fun (W : World) (_ : Below w.heap.size w W) => r10_proof (keyOf r c x peer) (key_lt r c x peer) q (by omega) W)
  have e3 : (3 : Int) - (r : Int) = (q : Int) := by omega
  have bq : (q : Int) ≤ 2 := by omega
  have br : (r : Int) ≤ 2 := by omega
  rw [← hq]
  clear hr hc h1 h2 hp hq
  generalize keyOf r c x peer = k at *
  have hEq := fun W => eqB_run g (prOf k q) hg (fun i _ => Sha.tagged_lt _ _ _ _ i) W
  obtain ⟨G, hGe⟩ : ∃ G, G = prOf k q := ⟨_, rfl⟩
  rw [← hGe] at HP hEq ⊢
  clear hGe hg
  rw [show d32 g = Value.agg (c32 g).toArray from rfl]
  go_enter Tryd.func47, Tryd.ntmps47
  go_upto_region 1 with fail
  change Code.wp Tryd.prog _ _ _ ((w.alloc (.cells #[.int .i64 r, .int .i64 c, .int .i64 x] 24)).alloc (.cells (c32 g).toArray 44))
  have hK := QG.first w r c x g (c32 g) fun i hi => c32_get g i hi
  generalize (w.alloc (.cells #[.int .i64 r, .int .i64 c, .int .i64 x] 24)).alloc (.cells (c32 g).toArray 44) = w1 at *
  have hS := hK.p.all
  unfold PS at hS
  have HK := Lib.hid hK
  clear hK
  go_wp2_with fail
  refine (HS.out _ HK.out.p.below).mono ?_
  rintro e w2 ⟨rfl, hb1⟩
  have HK2 := Lib.hid (HK.out.next hb1 (Nat.le_refl _))
  clear hb1 hS HK HS
  unfold d32
  unfold d32 at HP
  go_upto_region 2 with first
    | (refine wpList_allocK rfl rfl ?_; intro w3 hw3)
    | (refine wpList_store_mid rfl 37 (.tmp 8) (.tmp 14) rfl w2.heap.size 0 (c32 k).toArray rfl rfl ?_ (key_size _) (c32_one _) ?_; · exact there_c32 hw3.out.1 _)
  have hT := TG.first (k := k) HK2.out hw3.out.1 hw3.out.2.1 hw3.out.2.2
  clear hw3 HK2
  generalize w3.setCells w2.heap.size 0 (c32 k) = w4 at *
  generalize w2.heap.size = K at *
  have hS := hT.all
  unfold TGS at hS
  go_upto_region 4 with fail
  have eW : IntKind.i64.wrap (q : Int) = (q : Int) := by rw [IntKind.wrap_i64]; omega
  refine wp_region_held_drew (S := fun w' => (w'.rangeAt (w.heap.size + 1) 0 (c32 g) ∧ w'.rangeAt K 0 (c32 k) ∧ w'.cell? ⟨w.heap.size, 0, none⟩ = some (.int .i64 (r : Int))) ∧ TG K w r c x g k w') (by kernel_rfl) (TG.next hS.2 (Below.refl _ _).drew (Nat.le_refl _)).all (fun hH => ?_)
  refine wpAnyH_take (i := 0) (v := .agg (c32 g).toArray) rfl (by kernel_rfl) (by kernel_rfl) (by kernel_rfl) (fun _ _ _ h => h) (yieldsIf_load_mid (by rfl) _ _ rfl (w.heap.size + 1) 0 rfl (c32 g) (.array 32 5) (fun _ h => h.1.1) under32 rfl (info_dig' g)) hH ?_
  try simp only [Act.put, List.setIfInBounds_toArray, List.set_cons_zero, List.set_cons_succ]
  refine wpAnyH_take (i := 1) (v := .agg (c32 k).toArray) rfl (by kernel_rfl) (by kernel_rfl) (by kernel_rfl) (fun _ _ _ h => h) (yieldsIf_load_mid (by rfl) _ _ rfl K 0 rfl (c32 k) (.array 32 5) (fun _ h => h.1.2.1) under_key rfl (info_key' k)) hH ?_
  try simp only [Act.put, List.setIfInBounds_toArray, List.set_cons_zero, List.set_cons_succ]
  refine wpAnyH_take (i := 2) (v := ?v2) rfl (by kernel_rfl) (by kernel_rfl) (by kernel_rfl) (fun _ _ _ h => h) (Or.inl ⟨by rfl, ?y2⟩) hH ?_
  case y2 => intro W hSw; go_simp; with_reducible rfl
  try simp only [Act.put, List.setIfInBounds_toArray, List.set_cons_zero, List.set_cons_succ]
  refine wpAnyH_take (i := 3) (v := ?v3) rfl (by kernel_rfl) (by kernel_rfl) (by kernel_rfl) (fun _ _ _ h => h) (Or.inl ⟨by rfl, ?y3⟩) hH ?_
  case y3 => intro W hSw; go_simp; try with_reducible rfl
  try simp only [Act.put, List.setIfInBounds_toArray, List.set_cons_zero, List.set_cons_succ]
  refine wpAnyH_take (i := 4) (v := ?v4) rfl (by kernel_rfl) (by kernel_rfl) (by kernel_rfl) (fun _ _ _ h => h) (Or.inl ⟨by rfl, ?y4⟩) hH ?_
  case y4 => intro W hSw; go_simp; try with_reducible rfl
  try simp only [Act.put, List.setIfInBounds_toArray, List.set_cons_zero, List.set_cons_succ]
  refine wpAnyH_ready (rs := [5]) (by kernel_rfl) (by simp) ?_
  refine AllReadyH.cons rfl (fun K2 hK2 => ?_) AllReadyH.nil
  go_simp
  with_reducible refine (HP.out _ hH.2.q.p.below).mono ?_
  rintro e w5 ⟨rfl, hb1⟩
  have hT5 := TG.next hH.2 hb1 (Nat.le_refl _)
  go_wp2_with fail
  refine hK2.out _ _ hT5.all (fun hH2 => ?_)
  try simp only [Act.put, List.setIfInBounds_toArray, List.set_cons_zero, List.set_cons_succ]
  refine wpAnyH_take (i := 6) (v := ?v6) rfl (by kernel_rfl) (by kernel_rfl) (by kernel_rfl) (fun _ _ _ h => h) (Or.inl ⟨by rfl, ?y6⟩) hH2 ?_
  case y6 => intro W hSw; go_simp; try with_reducible rfl
  try simp only [List.getElem_toArray, List.getElem_cons_succ, List.getElem_cons_zero, Act.put, List.setIfInBounds_toArray, List.set_cons_zero, List.set_cons_succ]
  refine wpAnyH_take (i := 7) (v := ?v7) rfl (by kernel_rfl) (by kernel_rfl) (by kernel_rfl) (fun _ _ _ h => h) (Or.inl ⟨by rfl, ?y7⟩) hH2 ?_
  case y7 => intro W hSw; go_simp; try with_reducible rfl
  try simp only [List.getElem_toArray, List.getElem_cons_succ, List.getElem_cons_zero, Act.put, List.setIfInBounds_toArray, List.set_cons_zero, List.set_cons_succ]
  refine wpAnyH_take (i := 8) (v := ?v8) rfl (by kernel_rfl) (by kernel_rfl) (by kernel_rfl) (fun _ _ _ h => h) (Or.inl ⟨by rfl, ?y8⟩) hH2 ?_
  case y8 => intro W hSw; go_simp; try with_reducible rfl
  try simp only [List.getElem_toArray, List.getElem_cons_succ, List.getElem_cons_zero, Act.put, List.setIfInBounds_toArray, List.set_cons_zero, List.set_cons_succ]
  refine wpAnyH_done (by kernel_rfl) ?_ _
  have hB := Lib.hid hH2.2.q.p.below
  clear hK2 hH hH2 hS hT hT5 hb1
  go_wp2_with fail
  go_ret2
  exact ⟨rfl, hB.out⟩
end Go.Proofs.YtelikpkekloffaaDoor
