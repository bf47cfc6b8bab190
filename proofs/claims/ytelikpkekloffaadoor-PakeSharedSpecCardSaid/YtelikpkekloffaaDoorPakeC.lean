/- pake.Shared of this program, walked. -/
import Derived.Test.YtelikpkekloffaaDoorPakeB
import Derived.Test.YtelikpkekloffaaDoorRefS
namespace Go.Proofs.YtelikpkekloffaaDoor
open Go.RowKit

theorem under_key : Tryd.prog.underlying 37 = some (.array 32 5) := by kernel_rfl
theorem info_key : (Tryd.prog.info? 37).map (·.size) = some 32 := by kernel_rfl
/-- what stands while Shared calculates: its side's cells, and its result's. -/
structure KG (w : World) (r c x : Int) (W : World) : Prop where
  p : PG w.heap.size w r c x W
  k : Row W (w.heap.size + 1) 0 32 .u8 (fun _ => 0)
  z : w.heap.size + 1 < W.heap.size
theorem KG.first (w : World) (r c x : Int) : KG w r c x ((w.alloc (.cells #[.int .i64 r, .int .i64 c, .int .i64 x] 24)).alloc (.cells (List.replicate 32 (Value.int .u8 0)).toArray 37)) := by
  have h := row_zeros32 (w.alloc (.cells #[.int .i64 r, .int .i64 c, .int .i64 x] 24)) 37
  rw [alloc_size] at h
  exact ⟨(PG.first w r c x).next ((Below.refl _ _).alloc (Nat.le_refl _) _) (Nat.le_refl _), h, by rw [alloc_size, alloc_size]; omega⟩
theorem KG.next {w W W' : World} {r c x : Int} {b : Nat} (h : KG w r c x W) (hb : Below b W W') (hD : W.heap.size ≤ b) : KG w r c x W' :=
  ⟨h.p.next hb hD, h.k.below hb (by have := h.z; omega), Nat.lt_of_lt_of_le h.z hb.size⟩
theorem KG.ret {w W : World} {r c x : Int} (h : KG w r c x W) : (loadVar 37 ⟨w.heap.size + 1, 0, none⟩).run Tryd.prog W = .ok (d32 (fun _ => 0)) W := by
  have h1 : Row W (w.heap.size + 1) 0 32 .u8 (fun i => (((fun _ => 0) : Nat → Nat) i : Int)) := h.k
  exact run_loadVar_mid W (w.heap.size + 1) 0 37 (c32 (fun _ => 0)) (.array 32 5) (range32 h1.reads) under_key rfl (by rw [c32_length]; exact info_key)

theorem KG.range {w W : World} {r c x : Int} (h : KG w r c x W) : W.rangeAt (w.heap.size + 1) 0 (c32 (fun _ => 0)) := by
  have h1 : Row W (w.heap.size + 1) 0 32 .u8 (fun i => (((fun _ => 0) : Nat → Nat) i : Int)) := h.k
  exact range32 h1.reads
theorem KG.there {w W : World} {r c x : Int} (h : KG w r c x W) (g : Nat → Nat) : W.there (w.heap.size + 1) 0 (c32 g).toArray.size := by
  rw [c32_size]; exact there32 h.k
theorem key_size (g : Nat → Nat) : (Tryd.prog.info? 37).map (·.size) = some (c32 g).toArray.size := by rw [c32_size]; exact info_key
/-- behind a store into the result. -/
theorem KG.put {w W : World} {r c x : Int} (h : KG w r c x W) (g : Nat → Nat) : PG w.heap.size w r c x (W.setCells (w.heap.size + 1) 0 (c32 g)) ∧ (loadVar 37 ⟨w.heap.size + 1, 0, none⟩).run Tryd.prog (W.setCells (w.heap.size + 1) 0 (c32 g)) = .ok (d32 g) (W.setCells (w.heap.size + 1) 0 (c32 g)) := by
  have hb : Below (w.heap.size + 1) W (W.setCells (w.heap.size + 1) 0 (c32 g)) := below_cells (Nat.le_refl _) _ _ _ (Below.refl _ _)
  refine ⟨⟨h.p.ge, h.p.below.trans (hb.mono (by omega)), by rw [hb.block _ (by omega)]; exact h.p.obj⟩, ?_⟩
  have h1 : Row (W.setCells (w.heap.size + 1) 0 (c32 g)) (w.heap.size + 1) 0 32 .u8 (fun i => (g i : Int)) := h.k.store
  exact run_loadVar_mid _ (w.heap.size + 1) 0 37 (c32 g) (.array 32 5) (range32 h1.reads) under_key rfl (by rw [c32_length]; exact info_key)

set_option maxHeartbeats 4000000 in
set_option maxRecDepth 100000 in
theorem pshared_noside (r c x peer : Int) (h : okSide r c x = false) (w : World) :
    Calls Tryd.prog 34 #[.agg #[.int .i64 r, .int .i64 c, .int .i64 x], .int .i64 peer] w fun e w' => e = .returned (.tuple #[d32 (fun _ => 0), .int .i64 100]) ∧ Below w.heap.size w w' := by
  have HP := Lib.hid (fun w => ppoint_no r c x h w)
  clear h
  go_enter Tryd.func34, Tryd.ntmps34
  go_upto_region 1 with fail
  change Code.wp Tryd.prog _ _ _ ((w.alloc (.cells #[.int .i64 r, .int .i64 c, .int .i64 x] 24)).alloc (.cells (List.replicate 32 (Value.int .u8 0)).toArray 37))
  have hK := KG.first w r c x
  generalize (w.alloc (.cells #[.int .i64 r, .int .i64 c, .int .i64 x] 24)).alloc (.cells (List.replicate 32 (Value.int .u8 0)).toArray 37) = w1 at *
  have hS := hK.p.all
  unfold PS at hS
  have HK := Lib.hid hK
  clear hK
  go_wp2_with fail
  refine (HP.out _).mono ?_
  rintro e w2 ⟨rfl, hb1⟩
  have HK2 := Lib.hid (HK.out.next hb1 (Nat.le_refl _))
  clear hb1 hS HK
  go_wp2_with first
    | (refine wpList_load_mid rfl 37 (.tmp 4) rfl (w.heap.size + 1) 0 rfl (c32 (fun _ => 0)) (.array 32 5) HK2.out.range under_key rfl (by rw [c32_length]; exact info_key) ?_)
    | (refine wpList_store_mid rfl 37 (.tmp 4) (.tmp 26) rfl (w.heap.size + 1) 0 (c32 (fun _ => 0)).toArray rfl rfl (HK2.out.there _) (key_size _) (c32_one _) ?_)
  have hput := HK2.out.put (fun _ => 0)
  exact bodyPost_ret (v := .tuple #[d32 (fun _ => 0), .int .i64 100]) (results_cellTmp rfl rfl rfl hput.2) rfl ⟨rfl, hput.1.below⟩

set_option maxHeartbeats 4000000 in
set_option maxRecDepth 100000 in
theorem pshared_nopeer (r c x : Nat) (hr : r = 1 ∨ r = 2) (hc : c < 1000000) (h1 : 1 ≤ x) (h2 : x < 2305843009213688669) (peer : Int) (hp : Gp.isEl peer = false) (w : World) (hT : Tabs w) :
    Calls Tryd.prog 34 #[.agg #[.int .i64 r, .int .i64 c, .int .i64 x], .int .i64 peer] w fun e w' => e = .returned (.tuple #[d32 (fun _ => 0), .int .i64 100]) ∧ Below w.heap.size w w' := by
  have HP := Lib.hid (fun (W : World) (hB : Below w.heap.size w W) => ppoint_ok r c x hr hc h1 h2 W (hT.below hB))
  have HC := Lib.hid (fun w => check_any peer w)
  rw [show Gp.gChk peer = 40 by unfold Gp.gChk; rw [hp]; rfl] at HC
  generalize ppOf r c x = own at *
  clear hr hc h1 h2 hp hT
  go_enter Tryd.func34, Tryd.ntmps34
  go_upto_region 1 with fail
  change Code.wp Tryd.prog _ _ _ ((w.alloc (.cells #[.int .i64 r, .int .i64 c, .int .i64 x] 24)).alloc (.cells (List.replicate 32 (Value.int .u8 0)).toArray 37))
  have hK := KG.first w r c x
  generalize (w.alloc (.cells #[.int .i64 r, .int .i64 c, .int .i64 x] 24)).alloc (.cells (List.replicate 32 (Value.int .u8 0)).toArray 37) = w1 at *
  have hS := hK.p.all
  unfold PS at hS
  have HK := Lib.hid hK
  clear hK
  go_wp2_with fail
  refine (HP.out _ HK.out.p.below).mono ?_
  rintro e w2 ⟨rfl, hb1⟩
  have HK2 := Lib.hid (HK.out.next hb1 (Nat.le_refl _))
  clear hb1 hS HK
  go_wp2_with fail
  refine (HC.out _).mono ?_
  rintro e w3 ⟨rfl, hb1⟩
  have HK3 := Lib.hid (HK2.out.next hb1 (Nat.le_refl _))
  clear hb1 HK2
  go_wp2_with first
    | (refine wpList_load_mid rfl 37 (.tmp 4) rfl (w.heap.size + 1) 0 rfl (c32 (fun _ => 0)) (.array 32 5) HK3.out.range under_key rfl (by rw [c32_length]; exact info_key) ?_)
    | (refine wpList_store_mid rfl 37 (.tmp 4) (.tmp 31) rfl (w.heap.size + 1) 0 (c32 (fun _ => 0)).toArray rfl rfl (HK3.out.there _) (key_size _) (c32_one _) ?_)
  have hput := HK3.out.put (fun _ => 0)
  exact bodyPost_ret (v := .tuple #[d32 (fun _ => 0), .int .i64 100]) (results_cellTmp rfl rfl rfl hput.2) rfl ⟨rfl, hput.1.below⟩

set_option maxHeartbeats 1000000 in
theorem order1_any (a b : Int) (w : World) : Calls Tryd.prog 92 #[.int .i64 a, .int .i64 b] w fun e w' => e = .returned (.tuple #[.int .i64 a, .int .i64 b]) ∧ w' = w := by
  go_enter Tryd.func92, Tryd.ntmps92
  go_wp2_with fail
  go_ret2
  exact ⟨rfl, rfl⟩
set_option maxHeartbeats 1000000 in
theorem order2_any (a b : Int) (w : World) : Calls Tryd.prog 93 #[.int .i64 a, .int .i64 b] w fun e w' => e = .returned (.tuple #[.int .i64 b, .int .i64 a]) ∧ w' = w := by
  go_enter Tryd.func93, Tryd.ntmps93
  go_wp2_with fail
  go_ret2
  exact ⟨rfl, rfl⟩

theorem field_fn (s : ByteArray) (f : FuncId) (W : World) : Sem.run Tryd.prog (Instr.field 72 (.agg #[.string s, .func (.func f) #[] #[]]) 1) W = .ok (.func (.func f) #[] #[]) W := by kernel_rfl
/-- bytes of three numbers. -/
def n8 (a b c : Nat) (i : Nat) : Nat := by8 (if i < 8 then a else if i < 16 then b else c) (i % 8)
def three (a b c : Nat) (i : Nat) : Nat := if i = 0 then a else if i = 1 then b else c
theorem three_cell (w : World) (a b c : Nat) (i : Nat) (h : i < 3) : (w.alloc (.cells #[.int .i64 (a : Int), .int .i64 (b : Int), .int .i64 (c : Int)] 3)).cell? ⟨w.heap.size, i, none⟩ = some (.int .i64 (three a b c i : Nat)) := by
  match i, h with
  | 0, _ => rw [World.cell?_alloc_new]; rfl
  | 1, _ => rw [World.cell?_alloc_new]; rfl
  | 2, _ => rw [World.cell?_alloc_new]; rfl
theorem n8_cat (a b c i : Nat) (h : i < 3) : bl (8 * i) (n8 a b c) ++ bl 8 (by8 (three a b c i)) = bl (8 * i + 8) (n8 a b c) := by
  rw [bl_cat]
  refine bl_congr fun j hj => ?_
  unfold Sha.cat
  by_cases hl : j < 8 * i
  · rw [if_pos hl]
  · rw [if_neg hl]
    unfold n8 three
    match i, h with
    | 0, _ => rw [if_pos rfl, if_pos (by omega), show j % 8 = j - 8 * 0 by omega]
    | 1, _ => rw [if_neg (by decide), if_pos rfl, if_neg (by omega), if_pos (by omega), show j % 8 = j - 8 * 1 by omega]
    | 2, _ => rw [if_neg (by decide), if_neg (by decide), if_neg (by omega), if_neg (by omega), show j % 8 = j - 8 * 2 by omega]
/-- the shared element. -/
def shOf (r c x peer : Nat) : Nat := Gp.pw 4611686018427377339 (Gp.mu 4611686018427377339 peer (Gp.pw 4611686018427377339 (maOf (nmOf (3 - r)) c) 2305843009213688668)) x
/-- the key's byte i. -/
def keyOf (r c x peer : Nat) : Nat → Nat :=
  Sha.tagged pakeT.size (sb pakeT) 24 (if r = 1 then n8 (ppOf r c x) peer (shOf r c x peer) else n8 peer (ppOf r c x) (shOf r c x peer))

set_option maxHeartbeats 4000000 in
set_option maxRecDepth 100000 in
theorem pshared_ok (r c x : Nat) (hr : r = 1 ∨ r = 2) (hc : c < 1000000) (h1 : 1 ≤ x) (h2 : x < 2305843009213688669) (peer : Nat) (hp : Gp.El peer) (w : World) (hT : Tabs w) :
    Calls Tryd.prog 34 #[.agg #[.int .i64 r, .int .i64 c, .int .i64 x], .int .i64 peer] w fun e w' => e = .returned (.tuple #[d32 (keyOf r c x peer), .int .i64 0]) ∧ Below w.heap.size w w' := by
  have HP := Lib.hid (fun (W : World) (hB : Below w.heap.size w W) => ppoint_ok r c x hr hc h1 h2 W (hT.below hB))
  have HC := Lib.hid (fun w => checkE hp w)
  have HR := Lib.hid (fun w => roles_some w)
  go_enter Tryd.func34, Tryd.ntmps34
  go_upto_region 1 with fail
  change Code.wp Tryd.prog _ _ _ ((w.alloc (.cells #[.int .i64 r, .int .i64 c, .int .i64 x] 24)).alloc (.cells (List.replicate 32 (Value.int .u8 0)).toArray 37))
  have hK := KG.first w r c x
  generalize (w.alloc (.cells #[.int .i64 r, .int .i64 c, .int .i64 x] 24)).alloc (.cells (List.replicate 32 (Value.int .u8 0)).toArray 37) = w1 at *
  have hS := hK.p.all
  unfold PS at hS
  have HK := Lib.hid hK
  clear hK
  go_wp2_with fail
  refine (HP.out _ HK.out.p.below).mono ?_
  rintro e w2 ⟨rfl, hb1⟩
  have HK2 := Lib.hid (HK.out.next hb1 (Nat.le_refl _))
  clear hb1 hS HK
  have HX := Lib.hid (show _ ∧ _ ∧ _ ∧ _ ∧ _ ∧ _ from ⟨hr, hc, h1, h2, hp, hT⟩)
  clear hr hc h1 h2 hp hT
  go_wp2_with fail
  refine (HC.out _).mono ?_
  rintro e w3 ⟨rfl, hb1⟩
  have HK3 := Lib.hid (HK2.out.next hb1 (Nat.le_refl _))
  clear hb1 HK2 HP HC
  go_wp2_with fail
  refine (HR.out _).mono ?_
  rintro e w4 ⟨Bm, rfl, hmap, hb1⟩
  have HK4 := Lib.hid (HK3.out.next hb1 (Nat.le_refl _))
  clear hb1 HK3 HR
  have hS := HK4.out.p.all
  unfold PS at hS
  obtain ⟨q, hq⟩ : ∃ q, q = 3 - r := ⟨_, rfl⟩
  have hr3 : q = 1 ∨ q = 2 := by have := HX.out.1; omega
  have e3 : (3 : Int) - (r : Int) = (q : Int) := by have := HX.out.1; omega
  have bq : (q : Int) ≤ 2 := by omega
  have br : (r : Int) ≤ 2 := by have := HX.out.1; omega
  have hl3 := role_at q hr3 w4 Bm hmap
  have HM := Lib.hid (masked_any (nmOf q) (fnOf q) c (by have := HX.out.2.1; omega) (nm_size _) w4 (HX.out.2.2.2.2.2.below HK4.out.p.below))
  have HI := Lib.hid (fun w => invE (ma_el (nmOf q) c) rfl w)
  have hI : Gp.El (Gp.pw 4611686018427377339 (maOf (nmOf q) c) 2305843009213688668) := (ma_el _ _).pw _
  have HU := Lib.hid (fun w => mulE HX.out.2.2.2.2.1 hI rfl w)
  have hU := HX.out.2.2.2.2.1.mu hI
  have HE := Lib.hid (fun w => expE hU HX.out.2.2.2.1 (r := shOf r c x peer) (by rw [shOf, ← hq]) w)
  have HQ := Lib.hid (show _ ∧ _ from ⟨hq, hr3⟩)
  clear hq hr3 hI hU
  generalize Gp.mu 4611686018427377339 peer (Gp.pw 4611686018427377339 (maOf (nmOf q) c) 2305843009213688668) = bare at *
  generalize Gp.pw 4611686018427377339 (maOf (nmOf q) c) 2305843009213688668 = inv at *
  generalize maOf (nmOf q) c = ma at *
  generalize nmOf q = nm at *
  generalize fnOf q = fv at *
  go_wp2_with fail
  refine HM.out.mono ?_
  rintro e w5 ⟨rfl, hb1⟩
  have HK5 := Lib.hid (HK4.out.next hb1 (Nat.le_refl _))
  replace hmap : w5.heap[Bm]? = some (.map roleMap 2) := by rw [hb1.block _ (Array.getElem?_eq_some_iff.1 hmap).1]; exact hmap
  clear hb1 HK4 hS hl3 HM
  go_wp2_with fail
  refine (HI.out _).mono ?_
  rintro e w6 ⟨rfl, hb1⟩
  have HK6 := Lib.hid (HK5.out.next hb1 (Nat.le_refl _))
  replace hmap : w6.heap[Bm]? = some (.map roleMap 2) := by rw [hb1.block _ (Array.getElem?_eq_some_iff.1 hmap).1]; exact hmap
  clear hb1 HK5 HI
  go_wp2_with fail
  refine (HU.out _).mono ?_
  rintro e w7 ⟨rfl, hb1⟩
  have HK7 := Lib.hid (HK6.out.next hb1 (Nat.le_refl _))
  replace hmap : w7.heap[Bm]? = some (.map roleMap 2) := by rw [hb1.block _ (Array.getElem?_eq_some_iff.1 hmap).1]; exact hmap
  clear hb1 HK6 HU
  have hS := HK7.out.p.all
  unfold PS at hS
  go_wp2_with fail
  refine (HE.out _).mono ?_
  rintro e w8 ⟨rfl, hb1⟩
  have HK8 := Lib.hid (HK7.out.next hb1 (Nat.le_refl _))
  replace hmap : w8.heap[Bm]? = some (.map roleMap 2) := by rw [hb1.block _ (Array.getElem?_eq_some_iff.1 hmap).1]; exact hmap
  clear hb1 HK7 HE hS bq br e3 HQ
  have hol : ppOf r c x < 4611686018427377339 := (pp_el r c x).2.1
  have hzl : shOf r c x peer < 4611686018427377339 := Gp.pw_lt (by decide)
  have hpl : peer < 4611686018427377339 := HX.out.2.2.2.2.1.2.1
  obtain ⟨own, hown⟩ : ∃ own : Nat, own = ppOf r c x := ⟨_, rfl⟩
  obtain ⟨zz, hzz⟩ : ∃ zz : Nat, zz = shOf r c x peer := ⟨_, rfl⟩
  have HOWN := Lib.hid (show _ ∧ _ from ⟨hown, hzz⟩)
  rw [← hown] at hol
  rw [← hzz] at hzl
  have HLT := Lib.hid (show own < 9223372036854775808 ∧ zz < 9223372036854775808 ∧ peer < 9223372036854775808 by omega)
  rw [← hown, ← hzz]
  clear hown hzz hol hzl hpl
  rcases HX.out.1 with rfl | rfl
  · have hlr := role_at 1 (by decide) w8 Bm hmap
    rw [show fnOf 1 = .func (.func 92) #[] #[] from rfl] at hlr
    rw [show (((1 : Nat) : Int)) = 1 from rfl] at hlr
    have HO := Lib.hid (fun w => order1_any (own : Int) (peer : Int) w)
    have hfd := fun W => field_fn (nmOf 1) 92 W
    have hS := HK8.out.p.all
    unfold PS at hS
    rw [show (((1 : Nat) : Int)) = 1 from rfl] at hS
    clear hmap
    go_wp2_with fail
    refine (HO.out _).mono ?_
    rintro e w9 ⟨rfl, hw⟩
    subst hw
    clear hfd hlr HO
    have hb := (Below.refl w9.heap.size w9).alloc (Nat.le_refl _) (.cells #[.int .i64 (own : Int), .int .i64 (peer : Int), .int .i64 (zz : Int)] 3)
    have hcell := three_cell w9 own peer zz
    have hsz : w9.heap.size < (w9.alloc (.cells #[.int .i64 (own : Int), .int .i64 (peer : Int), .int .i64 (zz : Int)] 3)).heap.size := by rw [alloc_size]; exact Nat.lt_succ_self _
    have hKb := HK8.out.next hb (Nat.le_refl _)
    go_wp2_with fail
    generalize w9.alloc (.cells #[.int .i64 (own : Int), .int .i64 (peer : Int), .int .i64 (zz : Int)] 3) = wb at *
    generalize w9.heap.size = D9 at *
    have HC := Lib.hid hcell
    have HSZ := Lib.hid hsz
    have HKB := Lib.hid hKb
    clear hb hcell hsz hKb hS HK8
    go_loopg [16, 74] 3 (fun g s16 s74 wr => ∃ (r : Value) (i : Nat), s16 = r ∧ s74 = .int .i64 i ∧ Hid (i + g = 3) ∧ Hid (wr.ownsRow wb.heap.size 5 1 r (8 * i) (bl (8 * i) (n8 own peer zz)) ∧ Below wb.heap.size wb wr))
    case atStart => exact ⟨_, 0, rfl, rfl, Lib.hid rfl, Lib.hid ⟨World.ownsRow_nil _ _ _ _, Below.refl _ _⟩⟩
    case round =>
      obtain ⟨rv, i, rfl, rfl, hi, ho⟩ := hrel
      by_cases e0 : i < 3
      · have hc : wr.cell? ⟨D9, i, none⟩ = some (.int .i64 (three own peer zz i : Nat)) := (ho.out.2.cell (p := ⟨D9, i, none⟩) HSZ.out).trans (HC.out i e0)
        have hv : three own peer zz i < 9223372036854775808 := by unfold three; have := HLT.out; split <;> (try split) <;> omega
        have hcat : bl (8 * i) (n8 own peer zz) ++ bl 8 (by8 (three own peer zz i)) = bl (8 * i + 8) (n8 own peer zz) := n8_cat own peer zz i e0
        obtain ⟨v, hve⟩ : ∃ v, v = three own peer zz i := ⟨_, rfl⟩
        rw [← hve] at hc hv hcat
        have HCAT := Lib.hid hcat
        have HV := Lib.hid hv
        clear hcat hv hve
        go_wp2_with fail
        refine (eight_any v HV.out wr).mono ?_
        rintro e w10 ⟨v1, rfl, hr1, hb1⟩
        obtain ⟨p5, c5, rfl, hb5, hc5⟩ := Bytes.own hr1 (fun i hi => bl_get _ _ i hi) (fun i _ => by8_lt _ _)
        have HR1 := Lib.hid (owns_below ho.out.1 hb1 (Nat.le_refl _))
        have HY5 := Lib.hid hb5
        have HB10 := Lib.hid (ho.out.2.trans (hb1.mono ho.out.2.size))
        have H3 := Lib.hid e0
        clear hr1 hb1 hb5 hc5 hc e0
        go_wp2_with (at_builtin; refine wpList_append_b _ rfl (.tmp 78) (.tmp 80) rfl wb.heap.size _ (8 * i) _ rfl HR1.out p5 8 c5 _ rfl HY5.out (by have := H3.out; omega) HB10.out.size ?_; intro v3 w11 ho3)
        rw [HCAT.out] at ho3
        go_roundg (3 - (i + 1))
        case rel => exact ⟨_, i + 1, rfl, by go_num, Lib.hid (by have := H3.out; omega), Lib.hid ⟨ho3.out.1, HB10.out.trans ho3.out.2⟩⟩
        case measure => have := hi.out; have := H3.out; omega
      · obtain rfl : i = 3 := by have := hi.out; omega
        obtain ⟨p5, c5, rfl, hb5, hc5⟩ := Bytes.own ho.out.1 (fun i hi => bl_get _ _ i hi) (fun i _ => by8_lt _ _)
        have HKR := Lib.hid (HKB.out.next ho.out.2 (Nat.le_refl _))
        have HTG := Lib.hid (tagged_any pakeT p5 (8 * 3) c5 (n8 own peer zz) wr (HX.out.2.2.2.2.2.below HKR.out.p.below) hb5 (by decide) (by decide) hc5)
        obtain ⟨G, hG⟩ : ∃ G, G = Sha.tagged pakeT.size (sb pakeT) (8 * 3) (n8 own peer zz) := ⟨_, rfl⟩
        rw [← hG] at HTG
        have HGE := Lib.hid hG
        unfold d32 at HTG
        clear hb5 hc5 hG e0
        go_wp2_with fail
        refine HTG.out.mono ?_
        rintro e w10 ⟨rfl, hb1⟩
        have HKF := Lib.hid (HKR.out.next hb1 (Nat.le_refl _))
        clear hb1 HTG HKR
        have hke : keyOf 1 c x peer = G := by
          rw [HGE.out]
          unfold keyOf
          rw [if_pos rfl, ← HOWN.out.1, ← HOWN.out.2]
        have HKE := Lib.hid hke
        clear hke
        go_wp2_with (refine wpList_store_mid rfl 37 (.tmp 4) (.tmp 84) rfl (w.heap.size + 1) 0 (c32 G).toArray rfl rfl (HKF.out.there _) (key_size _) (c32_one _) ?_)
        have hput := HKF.out.put G
        exact bodyPost_ret (v := .tuple #[d32 G, .int .i64 0]) (results_cellTmp rfl rfl rfl hput.2) rfl ⟨by rw [HKE.out], hput.1.below⟩
  · have hlr := role_at 2 (by decide) w8 Bm hmap
    rw [show fnOf 2 = .func (.func 93) #[] #[] from rfl] at hlr
    rw [show (((2 : Nat) : Int)) = 2 from rfl] at hlr
    have HO := Lib.hid (fun w => order2_any (own : Int) (peer : Int) w)
    have hfd := fun W => field_fn (nmOf 2) 93 W
    have hS := HK8.out.p.all
    unfold PS at hS
    rw [show (((2 : Nat) : Int)) = 2 from rfl] at hS
    clear hmap
    go_wp2_with fail
    refine (HO.out _).mono ?_
    rintro e w9 ⟨rfl, hw⟩
    subst hw
    clear hfd hlr HO
    have hb := (Below.refl w9.heap.size w9).alloc (Nat.le_refl _) (.cells #[.int .i64 (peer : Int), .int .i64 (own : Int), .int .i64 (zz : Int)] 3)
    have hcell := three_cell w9 peer own zz
    have hsz : w9.heap.size < (w9.alloc (.cells #[.int .i64 (peer : Int), .int .i64 (own : Int), .int .i64 (zz : Int)] 3)).heap.size := by rw [alloc_size]; exact Nat.lt_succ_self _
    have hKb := HK8.out.next hb (Nat.le_refl _)
    go_wp2_with fail
    generalize w9.alloc (.cells #[.int .i64 (peer : Int), .int .i64 (own : Int), .int .i64 (zz : Int)] 3) = wb at *
    generalize w9.heap.size = D9 at *
    have HC := Lib.hid hcell
    have HSZ := Lib.hid hsz
    have HKB := Lib.hid hKb
    clear hb hcell hsz hKb hS HK8
    go_loopg [16, 74] 3 (fun g s16 s74 wr => ∃ (r : Value) (i : Nat), s16 = r ∧ s74 = .int .i64 i ∧ Hid (i + g = 3) ∧ Hid (wr.ownsRow wb.heap.size 5 1 r (8 * i) (bl (8 * i) (n8 peer own zz)) ∧ Below wb.heap.size wb wr))
    case atStart => exact ⟨_, 0, rfl, rfl, Lib.hid rfl, Lib.hid ⟨World.ownsRow_nil _ _ _ _, Below.refl _ _⟩⟩
    case round =>
      obtain ⟨rv, i, rfl, rfl, hi, ho⟩ := hrel
      by_cases e0 : i < 3
      · have hc : wr.cell? ⟨D9, i, none⟩ = some (.int .i64 (three peer own zz i : Nat)) := (ho.out.2.cell (p := ⟨D9, i, none⟩) HSZ.out).trans (HC.out i e0)
        have hv : three peer own zz i < 9223372036854775808 := by unfold three; have := HLT.out; split <;> (try split) <;> omega
        have hcat : bl (8 * i) (n8 peer own zz) ++ bl 8 (by8 (three peer own zz i)) = bl (8 * i + 8) (n8 peer own zz) := n8_cat peer own zz i e0
        obtain ⟨v, hve⟩ : ∃ v, v = three peer own zz i := ⟨_, rfl⟩
        rw [← hve] at hc hv hcat
        have HCAT := Lib.hid hcat
        have HV := Lib.hid hv
        clear hcat hv hve
        go_wp2_with fail
        refine (eight_any v HV.out wr).mono ?_
        rintro e w10 ⟨v1, rfl, hr1, hb1⟩
        obtain ⟨p5, c5, rfl, hb5, hc5⟩ := Bytes.own hr1 (fun i hi => bl_get _ _ i hi) (fun i _ => by8_lt _ _)
        have HR1 := Lib.hid (owns_below ho.out.1 hb1 (Nat.le_refl _))
        have HY5 := Lib.hid hb5
        have HB10 := Lib.hid (ho.out.2.trans (hb1.mono ho.out.2.size))
        have H3 := Lib.hid e0
        clear hr1 hb1 hb5 hc5 hc e0
        go_wp2_with (at_builtin; refine wpList_append_b _ rfl (.tmp 78) (.tmp 80) rfl wb.heap.size _ (8 * i) _ rfl HR1.out p5 8 c5 _ rfl HY5.out (by have := H3.out; omega) HB10.out.size ?_; intro v3 w11 ho3)
        rw [HCAT.out] at ho3
        go_roundg (3 - (i + 1))
        case rel => exact ⟨_, i + 1, rfl, by go_num, Lib.hid (by have := H3.out; omega), Lib.hid ⟨ho3.out.1, HB10.out.trans ho3.out.2⟩⟩
        case measure => have := hi.out; have := H3.out; omega
      · obtain rfl : i = 3 := by have := hi.out; omega
        obtain ⟨p5, c5, rfl, hb5, hc5⟩ := Bytes.own ho.out.1 (fun i hi => bl_get _ _ i hi) (fun i _ => by8_lt _ _)
        have HKR := Lib.hid (HKB.out.next ho.out.2 (Nat.le_refl _))
        have HTG := Lib.hid (tagged_any pakeT p5 (8 * 3) c5 (n8 peer own zz) wr (HX.out.2.2.2.2.2.below HKR.out.p.below) hb5 (by decide) (by decide) hc5)
        obtain ⟨G, hG⟩ : ∃ G, G = Sha.tagged pakeT.size (sb pakeT) (8 * 3) (n8 peer own zz) := ⟨_, rfl⟩
        rw [← hG] at HTG
        have HGE := Lib.hid hG
        unfold d32 at HTG
        clear hb5 hc5 hG e0
        go_wp2_with fail
        refine HTG.out.mono ?_
        rintro e w10 ⟨rfl, hb1⟩
        have HKF := Lib.hid (HKR.out.next hb1 (Nat.le_refl _))
        clear hb1 HTG HKR
        have hke : keyOf 2 c x peer = G := by
          rw [HGE.out]
          unfold keyOf
          rw [if_neg (by decide), ← HOWN.out.1, ← HOWN.out.2]
        have HKE := Lib.hid hke
        clear hke
        go_wp2_with (refine wpList_store_mid rfl 37 (.tmp 4) (.tmp 84) rfl (w.heap.size + 1) 0 (c32 G).toArray rfl rfl (HKF.out.there _) (key_size _) (c32_one _) ?_)
        have hput := HKF.out.put G
        exact bodyPost_ret (v := .tuple #[d32 G, .int .i64 0]) (results_cellTmp rfl rfl rfl hput.2) rfl ⟨by rw [HKE.out], hput.1.below⟩
end Go.Proofs.YtelikpkekloffaaDoor
