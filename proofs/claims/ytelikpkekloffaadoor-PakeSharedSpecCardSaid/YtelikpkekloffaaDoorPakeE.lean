/- pake.Proof, pake.Accept of this program, walked. -/
import Derived.Test.YtelikpkekloffaaDoorPakeD
import Derived.Deep.RegionHeld3
namespace Go.Proofs.YtelikpkekloffaaDoor
open Go.RowKit

theorem pshared_bad (r c x peer : Int) (h : (okSide r c x && Gp.isEl peer) = false) (w : World) (hT : Tabs w) :
    Calls Tryd.prog 34 #[.agg #[.int .i64 r, .int .i64 c, .int .i64 x], .int .i64 peer] w fun e w' => e = .returned (.tuple #[d32 (fun _ => 0), .int .i64 100]) ∧ Below w.heap.size w w' := by
  cases hs : okSide r c x with
  | false => exact pshared_noside r c x peer hs w
  | true =>
    rw [hs, Bool.true_and] at h
    obtain ⟨a, b, d, rfl, rfl, rfl, h1, h2, h3, h4⟩ := ok_nat hs
    exact pshared_nopeer a b d h1 h2 h3 h4 peer h w hT

theorem key_lt (r c x peer : Nat) : ∀ i, i < 32 → keyOf r c x peer i < 256 := fun i _ => Sha.tagged_lt _ _ _ _ i

theorem run_allocK (w : World) : (Instr.alloc 37 true (.tuple #[])).run Tryd.prog w = .ok (.pointer (some ⟨w.heap.size, 0, none⟩)) (w.alloc (.cells ((List.replicate 32 0).map (Value.int .u8)).toArray 37)) := by kernel_rfl
theorem wpList_allocK {w : World} {ops : Array Oper} {rest : List Oper} {o : Oper} {a : Act} {Q : Exit → Act → World → Prop} (hg : o.guard = none) (ho : o.op = .alloc 37)
    (h : ∀ w', Hid (Row w' w.heap.size 0 32 .u8 (fun _ => 0) ∧ Below w.heap.size w w' ∧ w'.heap.size = w.heap.size + 1) → wpList Tryd.prog ops Q rest (a.put o.dst (.pointer (some ⟨w.heap.size, 0, none⟩))) w') : wpList Tryd.prog ops Q (o :: rest) a w := by
  refine Great.wpList_runTo hg o.dst rfl (.pointer (some ⟨w.heap.size, 0, none⟩)) _ ?_ (h (w.alloc (.cells ((List.replicate 32 0).map (Value.int .u8)).toArray 37)) (Lib.hid ⟨row_list w _ _ 32 .u8 _ zeros32, (Below.refl _ _).alloc (Nat.le_refl _) _, alloc_size _ _⟩))
  unfold execOp
  simp only [ho, Sem.run_bind, Sem.run_pure, run_allocK, Result.andThen_ok]

/-- what stands while Proof or Accept calculates: its side's cells, and a digest's. -/
structure QG (w : World) (r c x : Int) (n : Nat → Nat) (W : World) : Prop where
  p : PG w.heap.size w r c x W
  d : Row W (w.heap.size + 1) 0 32 .u8 (fun i => (n i : Int))
  z : w.heap.size + 1 < W.heap.size
theorem QG.first (w : World) (r c x : Int) (n : Nat → Nat) (l : List Value) (hl : ∀ i, i < 32 → l[i]? = some (.int .u8 (n i : Int))) : QG w r c x n ((w.alloc (.cells #[.int .i64 r, .int .i64 c, .int .i64 x] 24)).alloc (.cells l.toArray 44)) := by
  have h := row_new (w.alloc (.cells #[.int .i64 r, .int .i64 c, .int .i64 x] 24)) l.toArray 44 32 .u8 (fun i => (n i : Int)) fun i hi => by rw [List.getElem?_toArray]; exact hl i hi
  rw [alloc_size] at h
  exact ⟨(PG.first w r c x).next ((Below.refl _ _).alloc (Nat.le_refl _) _) (Nat.le_refl _), h, by rw [alloc_size, alloc_size]; omega⟩
theorem QG.next {w W W' : World} {r c x : Int} {n : Nat → Nat} {b : Nat} (h : QG w r c x n W) (hb : Below b W W') (hD : W.heap.size ≤ b) : QG w r c x n W' :=
  ⟨h.p.next hb hD, h.d.below hb (by have := h.z; omega), Nat.lt_of_lt_of_le h.z hb.size⟩
/-- and a key's. -/
structure TG (K : Nat) (w : World) (r c x : Int) (n k : Nat → Nat) (W : World) : Prop where
  q : QG w r c x n W
  k : Row W K 0 32 .u8 (fun i => (k i : Int))
  gt : w.heap.size + 1 < K
  lt : K < W.heap.size
theorem TG.first {w W W' : World} {r c x : Int} {n k : Nat → Nat} (h : QG w r c x n W) (h1 : Row W' W.heap.size 0 32 .u8 (fun _ => 0)) (hb : Below W.heap.size W W') (hs : W'.heap.size = W.heap.size + 1) :
    TG W.heap.size w r c x n k (W'.setCells W.heap.size 0 (c32 k)) := by
  have hb2 : Below W.heap.size W (W'.setCells W.heap.size 0 (c32 k)) := below_cells (Nat.le_refl _) _ _ _ hb
  have hb3 : Below W.heap.size W' (W'.setCells W.heap.size 0 (c32 k)) := below_cells (Nat.le_refl _) _ _ _ (Below.refl _ _)
  exact ⟨h.next hb2 (Nat.le_refl _), h1.store, h.z, by have := hb3.size; omega⟩
theorem TG.next {w W W' : World} {r c x : Int} {n k : Nat → Nat} {b K : Nat} (h : TG K w r c x n k W) (hb : Below b W W') (hD : W.heap.size ≤ b) : TG K w r c x n k W' :=
  ⟨h.q.next hb hD, h.k.below hb (by have := h.lt; omega), h.gt, Nat.lt_of_lt_of_le h.lt hb.size⟩
/-- what a drawn region reads. -/
def TGS (K : Nat) (w : World) (r c x : Int) (n k : Nat → Nat) (W : World) : Prop :=
  (W.rangeAt (w.heap.size + 1) 0 (c32 n) ∧ W.rangeAt K 0 (c32 k) ∧ W.cell? ⟨w.heap.size, 0, none⟩ = some (.int .i64 r)) ∧ TG K w r c x n k W
theorem TG.all {w W : World} {r c x : Int} {n k : Nat → Nat} {K : Nat} (h : TG K w r c x n k W) : TGS K w r c x n k W :=
  ⟨⟨range32 h.q.d.reads, range32 h.k.reads, h.q.p.all.1.1⟩, h⟩
theorem info_key' (g : Nat → Nat) : (Tryd.prog.info? 37).map (·.size) = some (c32 g).length := by rw [c32_length]; exact info_key
theorem info_dig' (g : Nat → Nat) : (Tryd.prog.info? 44).map (·.size) = some (c32 g).length := by rw [c32_length]; exact info32

theorem there_c32 {w : World} {B : Nat} {f : Nat → Int} (h : Row w B 0 32 .u8 f) (g : Nat → Nat) : w.there B 0 (c32 g).toArray.size := by rw [c32_size]; exact there32 h
theorem dig_size (g : Nat → Nat) : (Tryd.prog.info? 44).map (·.size) = some (c32 g).toArray.size := by rw [c32_size]; exact info32

set_option maxHeartbeats 4000000 in
set_option maxRecDepth 100000 in
theorem pproved_bad (r c x peer : Int) (h : (okSide r c x && Gp.isEl peer) = false) (w : World) (hT : Tabs w) :
    Calls Tryd.prog 44 #[.agg #[.int .i64 r, .int .i64 c, .int .i64 x], .int .i64 peer] w fun e w' => e = .returned (.tuple #[d32 (fun _ => 0), .int .i64 100]) ∧ Below w.heap.size w w' := by
  have HS := Lib.hid (fun (W : World) (hB : Below w.heap.size w W) => pshared_bad r c x peer h W (hT.below hB))
  clear h hT
  go_enter Tryd.func44, Tryd.ntmps44
  go_upto_region 1 with fail
  change Code.wp Tryd.prog _ _ _ ((w.alloc (.cells #[.int .i64 r, .int .i64 c, .int .i64 x] 24)).alloc (.cells (List.replicate 32 (Value.int .u8 0)).toArray 44))
  have hK := QG.first w r c x (fun _ => 0) (List.replicate 32 (Value.int .u8 0)) fun i hi => by rw [List.getElem?_replicate, if_pos hi]; rfl
  generalize (w.alloc (.cells #[.int .i64 r, .int .i64 c, .int .i64 x] 24)).alloc (.cells (List.replicate 32 (Value.int .u8 0)).toArray 44) = w1 at *
  have hS := hK.p.all
  unfold PS at hS
  have HK := Lib.hid hK
  clear hK
  go_wp2_with fail
  refine (HS.out _ HK.out.p.below).mono ?_
  rintro e w2 ⟨rfl, hb1⟩
  have HK2 := Lib.hid (HK.out.next hb1 (Nat.le_refl _))
  clear hb1 hS HK HS
  unfold d32
  go_upto_region 2 with first
    | (refine wpList_allocK rfl rfl ?_; intro w3 hw3)
    | (refine wpList_store_mid rfl 37 (.tmp 6) (.tmp 11) rfl w2.heap.size 0 (c32 (fun _ => 0)).toArray rfl rfl ?_ (key_size _) (c32_one _) ?_; · exact there_c32 hw3.out.1 _)
  have hT := TG.first (k := fun _ => 0) HK2.out hw3.out.1 hw3.out.2.1 hw3.out.2.2
  have HT := Lib.hid hT
  clear hT hw3 HK2
  generalize w3.setCells w2.heap.size 0 (c32 (fun _ => 0)) = w4 at *
  go_wp2_with first
    | (refine wpList_load_mid rfl 44 (.tmp 4) rfl (w.heap.size + 1) 0 rfl (c32 (fun _ => 0)) (.array 32 5) (range32 HT.out.q.d.reads) under32 rfl (info_dig' _) ?_)
    | (refine wpList_store_mid rfl 44 (.tmp 4) (.tmp 15) rfl (w.heap.size + 1) 0 (c32 (fun _ => 0)).toArray rfl rfl (there_c32 HT.out.q.d _) (dig_size _) (c32_one _) ?_)
  have hst := range32 (HT.out.q.d.store (g := fun _ => 0)).reads
  refine bodyPost_ret (v := .tuple #[d32 (fun _ => 0), .int .i64 100]) (results_cellTmp rfl rfl rfl (run_loadVar_mid _ (w.heap.size + 1) 0 44 (c32 (fun _ => 0)) (.array 32 5) hst under32 rfl (info_dig' _))) rfl ⟨?_, ?_⟩
  · rfl
  · exact below_cells (by omega) _ _ _ HT.out.q.p.below

set_option maxHeartbeats 4000000 in
set_option maxRecDepth 100000 in
theorem pproved_ok (r c x : Nat) (hr : r = 1 ∨ r = 2) (hc : c < 1000000) (h1 : 1 ≤ x) (h2 : x < 2305843009213688669) (peer : Nat) (hp : Gp.El peer) (w : World) (hT : Tabs w) :
    Calls Tryd.prog 44 #[.agg #[.int .i64 r, .int .i64 c, .int .i64 x], .int .i64 peer] w fun e w' => e = .returned (.tuple #[d32 (prOf (keyOf r c x peer) r), .int .i64 0]) ∧ Below w.heap.size w w' := by
  have HS := Lib.hid (fun (W : World) (hB : Below w.heap.size w W) => pshared_ok r c x hr hc h1 h2 peer hp W (hT.below hB))
  have HP := Lib.hid (fun (W : World) (hB : Below w.heap.size w W) => pproof_any (keyOf r c x peer) (key_lt r c x peer) r (by omega) W (hT.below hB))
  clear hr hc h1 h2 hp hT
  generalize keyOf r c x peer = k at *
  go_enter Tryd.func44, Tryd.ntmps44
  go_upto_region 1 with fail
  change Code.wp Tryd.prog _ _ _ ((w.alloc (.cells #[.int .i64 r, .int .i64 c, .int .i64 x] 24)).alloc (.cells (List.replicate 32 (Value.int .u8 0)).toArray 44))
  have hK := QG.first w r c x (fun _ => 0) (List.replicate 32 (Value.int .u8 0)) fun i hi => by rw [List.getElem?_replicate, if_pos hi]; rfl
  generalize (w.alloc (.cells #[.int .i64 r, .int .i64 c, .int .i64 x] 24)).alloc (.cells (List.replicate 32 (Value.int .u8 0)).toArray 44) = w1 at *
  have hS := hK.p.all
  unfold PS at hS
  have HK := Lib.hid hK
  clear hK
  go_wp2_with fail
  refine (HS.out _ HK.out.p.below).mono ?_
  rintro e w2 ⟨rfl, hb1⟩
  have HK2 := Lib.hid (HK.out.next hb1 (Nat.le_refl _))
  clear hb1 hS HK HS
  unfold d32
  unfold d32 at HP
  go_upto_region 2 with first
    | (refine wpList_allocK rfl rfl ?_; intro w3 hw3)
    | (refine wpList_store_mid rfl 37 (.tmp 6) (.tmp 11) rfl w2.heap.size 0 (c32 k).toArray rfl rfl ?_ (key_size _) (c32_one _) ?_; · exact there_c32 hw3.out.1 _)
  have hT := TG.first (k := k) HK2.out hw3.out.1 hw3.out.2.1 hw3.out.2.2
  have HT := Lib.hid hT
  clear hT hw3 HK2
  generalize w3.setCells w2.heap.size 0 (c32 k) = w4 at *
  have hS := HT.out.all
  unfold TGS at hS
  have hS := hS.1.2.2
  generalize w2.heap.size = K at *
  obtain ⟨G, hGe⟩ : ∃ G, G = prOf k r := ⟨_, rfl⟩
  rw [← hGe] at HP
  have HGE := Lib.hid hGe
  clear hGe
  go_wp2_with first
    | (refine wpList_load_mid rfl 37 (.tmp 6) rfl K 0 rfl (c32 k) (.array 32 5) (range32 HT.out.k.reads) under_key rfl (info_key' _) ?_)
  refine (HP.out _ HT.out.q.p.below).mono ?_
  rintro e w5 ⟨rfl, hb1⟩
  have HT5 := Lib.hid (HT.out.next hb1 (Nat.le_refl _))
  clear hb1 hS HT HP
  go_wp2_with first
    | (refine wpList_store_mid rfl 44 (.tmp 4) (.tmp 20) rfl (w.heap.size + 1) 0 (c32 G).toArray rfl rfl (there_c32 HT5.out.q.d _) (dig_size _) (c32_one _) ?_)
  have hst := range32 (HT5.out.q.d.store (g := G)).reads
  refine bodyPost_ret (v := .tuple #[d32 G, .int .i64 0]) (results_cellTmp rfl rfl rfl (run_loadVar_mid _ (w.heap.size + 1) 0 44 (c32 G) (.array 32 5) hst under32 rfl (info_dig' _))) rfl ⟨?_, ?_⟩
  · rw [HGE.out]
  · exact below_cells (by omega) _ _ _ HT5.out.q.p.below

/-- '==' of two digests. -/
def eqB (x y : Nat → Nat) : Bool := (List.range 32).all fun i => x i == y i
theorem eqB_iff (x y : Nat → Nat) : eqB x y = true ↔ ∀ i, i < 32 → x i = y i := by
  unfold eqB
  rw [List.all_eq_true]
  exact ⟨fun h i hi => by simpa using h i (List.mem_range.2 hi), fun h i hi => by simpa using h i (List.mem_range.1 hi)⟩
theorem eqB_run (x y : Nat → Nat) (hx : ∀ i, i < 32 → x i < 256) (hy : ∀ i, i < 32 → y i < 256) (w : World) : Sem.run Tryd.prog (Op.equalIn 10000 44 (.agg (c32 x).toArray) (.agg (c32 y).toArray)) w = .ok (eqB x y) w := by
  obtain ⟨r, h1, h2⟩ := eq32 x y hx hy w
  rw [h1]
  have e : r = eqB x y := by
    rw [Bool.eq_iff_iff, h2, eqB_iff]
  rw [e]

set_option maxHeartbeats 4000000 in
set_option maxRecDepth 100000 in
theorem paccept_bad (r c x peer : Int) (g : Nat → Nat) (h : (okSide r c x && Gp.isEl peer) = false) (w : World) (hT : Tabs w) :
    Calls Tryd.prog 46 #[.agg #[.int .i64 r, .int .i64 c, .int .i64 x], .int .i64 peer, d32 g] w fun e w' => e = .returned (.tuple #[.bool false, .int .i64 100]) ∧ Below w.heap.size w w' := by
  have HS := Lib.hid (fun (W : World) (hB : Below w.heap.size w W) => pshared_bad r c x peer h W (hT.below hB))
  clear h hT
  rw [show d32 g = Value.agg (c32 g).toArray from rfl]
  go_enter Tryd.func46, Tryd.ntmps46
  go_upto_region 1 with fail
  change Code.wp Tryd.prog _ _ _ ((w.alloc (.cells #[.int .i64 r, .int .i64 c, .int .i64 x] 24)).alloc (.cells (c32 g).toArray 44))
  have hK := QG.first w r c x g (c32 g) fun i hi => c32_get g i hi
  generalize (w.alloc (.cells #[.int .i64 r, .int .i64 c, .int .i64 x] 24)).alloc (.cells (c32 g).toArray 44) = w1 at *
  have hS := hK.p.all
  unfold PS at hS
  have HK := Lib.hid hK
  clear hK
  go_wp2_with fail
  refine (HS.out _ HK.out.p.below).mono ?_
  rintro e w2 ⟨rfl, hb1⟩
  have HK2 := Lib.hid (HK.out.next hb1 (Nat.le_refl _))
  clear hb1 hS HK HS
  unfold d32
  go_upto_region 2 with first
    | (refine wpList_allocK rfl rfl ?_; intro w3 hw3)
    | (refine wpList_store_mid rfl 37 (.tmp 8) (.tmp 13) rfl w2.heap.size 0 (c32 (fun _ => 0)).toArray rfl rfl ?_ (key_size _) (c32_one _) ?_; · exact there_c32 hw3.out.1 _)
  have hT := TG.first (k := fun _ => 0) HK2.out hw3.out.1 hw3.out.2.1 hw3.out.2.2
  have HT := Lib.hid hT
  clear hT hw3 HK2
  generalize w3.setCells w2.heap.size 0 (c32 (fun _ => 0)) = w4 at *
  go_wp2_with fail
  go_ret2
  exact ⟨rfl, HT.out.q.p.below⟩

set_option linter.unusedSimpArgs false in
set_option maxHeartbeats 4000000 in
set_option maxRecDepth 100000 in
theorem paccept_ok (r c x : Nat) (hr : r = 1 ∨ r = 2) (hc : c < 1000000) (h1 : 1 ≤ x) (h2 : x < 2305843009213688669) (peer : Nat) (hp : Gp.El peer) (g : Nat → Nat) (hg : ∀ i, i < 32 → g i < 256) (w : World) (hT : Tabs w) :
    Calls Tryd.prog 46 #[.agg #[.int .i64 r, .int .i64 c, .int .i64 x], .int .i64 peer, d32 g] w fun e w' => e = .returned (.tuple #[.bool (eqB g (prOf (keyOf r c x peer) (3 - r))), .int .i64 0]) ∧ Below w.heap.size w w' := by
  have HS := Lib.hid (fun (W : World) (hB : Below w.heap.size w W) => pshared_ok r c x hr hc h1 h2 peer hp W (hT.below hB))
  obtain ⟨q, hq⟩ : ∃ q, q = 3 - r := ⟨_, rfl⟩
  have HP := Lib.hid (fun (W : World) (hB : Below w.heap.size w W) => pproof_any (keyOf r c x peer) (key_lt r c x peer) q (by omega) W (hT.below hB))
  have e3 : (3 : Int) - (r : Int) = (q : Int) := by omega
  have bq : (q : Int) ≤ 2 := by omega
  have br : (r : Int) ≤ 2 := by omega
  rw [← hq]
  clear hr hc h1 h2 hp hT hq
  generalize keyOf r c x peer = k at *
  have hEq := fun W => eqB_run g (prOf k q) hg (fun i _ => Sha.tagged_lt _ _ _ _ i) W
  obtain ⟨G, hGe⟩ : ∃ G, G = prOf k q := ⟨_, rfl⟩
  rw [← hGe] at HP hEq ⊢
  clear hGe hg
  rw [show d32 g = Value.agg (c32 g).toArray from rfl]
  go_enter Tryd.func46, Tryd.ntmps46
  go_upto_region 1 with fail
  change Code.wp Tryd.prog _ _ _ ((w.alloc (.cells #[.int .i64 r, .int .i64 c, .int .i64 x] 24)).alloc (.cells (c32 g).toArray 44))
  have hK := QG.first w r c x g (c32 g) fun i hi => c32_get g i hi
  generalize (w.alloc (.cells #[.int .i64 r, .int .i64 c, .int .i64 x] 24)).alloc (.cells (c32 g).toArray 44) = w1 at *
  have hS := hK.p.all
  unfold PS at hS
  have HK := Lib.hid hK
  clear hK
  go_wp2_with fail
  refine (HS.out _ HK.out.p.below).mono ?_
  rintro e w2 ⟨rfl, hb1⟩
  have HK2 := Lib.hid (HK.out.next hb1 (Nat.le_refl _))
  clear hb1 hS HK HS
  unfold d32
  unfold d32 at HP
  go_upto_region 2 with first
    | (refine wpList_allocK rfl rfl ?_; intro w3 hw3)
    | (refine wpList_store_mid rfl 37 (.tmp 8) (.tmp 13) rfl w2.heap.size 0 (c32 k).toArray rfl rfl ?_ (key_size _) (c32_one _) ?_; · exact there_c32 hw3.out.1 _)
  have hT := TG.first (k := k) HK2.out hw3.out.1 hw3.out.2.1 hw3.out.2.2
  clear hw3 HK2
  generalize w3.setCells w2.heap.size 0 (c32 k) = w4 at *
  generalize w2.heap.size = K at *
  have hS := hT.all
  unfold TGS at hS
  go_upto_region 4 with fail
  have eW : IntKind.i64.wrap (q : Int) = (q : Int) := by rw [IntKind.wrap_i64]; omega
  refine wp_region_held_drew (S := fun w' => (w'.rangeAt (w.heap.size + 1) 0 (c32 g) ∧ w'.rangeAt K 0 (c32 k) ∧ w'.cell? ⟨w.heap.size, 0, none⟩ = some (.int .i64 (r : Int))) ∧ TG K w r c x g k w') (by kernel_rfl) (TG.next hS.2 (Below.refl _ _).drew (Nat.le_refl _)).all (fun hH => ?_)
  refine wpAnyH_take (i := 0) (v := .agg (c32 g).toArray) rfl (by kernel_rfl) (by kernel_rfl) (by kernel_rfl) (fun _ _ _ h => h) (yieldsIf_load_mid (by rfl) _ _ rfl (w.heap.size + 1) 0 rfl (c32 g) (.array 32 5) (fun _ h => h.1.1) under32 rfl (info_dig' g)) hH ?_
  try simp only [Act.put, List.setIfInBounds_toArray, List.set_cons_zero, List.set_cons_succ]
  refine wpAnyH_take (i := 1) (v := .agg (c32 k).toArray) rfl (by kernel_rfl) (by kernel_rfl) (by kernel_rfl) (fun _ _ _ h => h) (yieldsIf_load_mid (by rfl) _ _ rfl K 0 rfl (c32 k) (.array 32 5) (fun _ h => h.1.2.1) under_key rfl (info_key' k)) hH ?_
  try simp only [Act.put, List.setIfInBounds_toArray, List.set_cons_zero, List.set_cons_succ]
  refine wpAnyH_take (i := 2) (v := ?v2) rfl (by kernel_rfl) (by kernel_rfl) (by kernel_rfl) (fun _ _ _ h => h) (Or.inl ⟨by rfl, ?y2⟩) hH ?_
  case y2 => intro W hSw; go_simp; with_reducible rfl
  try simp only [Act.put, List.setIfInBounds_toArray, List.set_cons_zero, List.set_cons_succ]
  refine wpAnyH_take (i := 3) (v := ?v3) rfl (by kernel_rfl) (by kernel_rfl) (by kernel_rfl) (fun _ _ _ h => h) (Or.inl ⟨by rfl, ?y3⟩) hH ?_
  case y3 => intro W hSw; go_simp; try with_reducible rfl
  try simp only [Act.put, List.setIfInBounds_toArray, List.set_cons_zero, List.set_cons_succ]
  refine wpAnyH_take (i := 4) (v := ?v4) rfl (by kernel_rfl) (by kernel_rfl) (by kernel_rfl) (fun _ _ _ h => h) (Or.inl ⟨by rfl, ?y4⟩) hH ?_
  case y4 => intro W hSw; go_simp; try with_reducible rfl
  try simp only [Act.put, List.setIfInBounds_toArray, List.set_cons_zero, List.set_cons_succ]
  refine wpAnyH_ready (rs := [5]) (by kernel_rfl) (by simp) ?_
  refine AllReadyH.cons rfl (fun K2 hK2 => ?_) AllReadyH.nil
  go_simp
  with_reducible refine (HP.out _ hH.2.q.p.below).mono ?_
  rintro e w5 ⟨rfl, hb1⟩
  have hT5 := TG.next hH.2 hb1 (Nat.le_refl _)
  go_wp2_with fail
  refine hK2.out _ _ hT5.all (fun hH2 => ?_)
  try simp only [Act.put, List.setIfInBounds_toArray, List.set_cons_zero, List.set_cons_succ]
  refine wpAnyH_take (i := 6) (v := ?v6) rfl (by kernel_rfl) (by kernel_rfl) (by kernel_rfl) (fun _ _ _ h => h) (Or.inl ⟨by rfl, ?y6⟩) hH2 ?_
  case y6 => intro W hSw; go_simp; try with_reducible rfl
  try simp only [List.getElem_toArray, List.getElem_cons_succ, List.getElem_cons_zero, Act.put, List.setIfInBounds_toArray, List.set_cons_zero, List.set_cons_succ]
  refine wpAnyH_take (i := 7) (v := ?v7) rfl (by kernel_rfl) (by kernel_rfl) (by kernel_rfl) (fun _ _ _ h => h) (Or.inl ⟨by rfl, ?y7⟩) hH2 ?_
  case y7 => intro W hSw; go_simp; try with_reducible rfl
  try simp only [List.getElem_toArray, List.getElem_cons_succ, List.getElem_cons_zero, Act.put, List.setIfInBounds_toArray, List.set_cons_zero, List.set_cons_succ]
  refine wpAnyH_take (i := 8) (v := ?v8) rfl (by kernel_rfl) (by kernel_rfl) (by kernel_rfl) (fun _ _ _ h => h) (Or.inl ⟨by rfl, ?y8⟩) hH2 ?_
  case y8 => intro W hSw; go_simp; try with_reducible rfl
  try simp only [List.getElem_toArray, List.getElem_cons_succ, List.getElem_cons_zero, Act.put, List.setIfInBounds_toArray, List.set_cons_zero, List.set_cons_succ]
  refine wpAnyH_done (by kernel_rfl) ?_ _
  have hB := Lib.hid hH2.2.q.p.below
  clear hK2 hH hH2 hS hT hT5 hb1
  go_wp2_with fail
  go_ret2
  exact ⟨rfl, hB.out⟩
end Go.Proofs.YtelikpkekloffaaDoor
