/- chartroomlaw05.number, sign.hash, chartroomlaw05.challenge of this program, walked: numbers as bytes. -/
import Derived.Test.YtelikpkekloffaaDoorHash
import Derived.Test.YtelikpkekloffaaDoorFieldS
namespace Go.Proofs.YtelikpkekloffaaDoor
open Go.RowKit

theorem bl_cat (n m : Nat) (f g : Nat → Nat) : bl n f ++ bl m g = bl (n + m) (Sha.cat n f g) := by
  apply List.ext_getElem?
  intro i
  by_cases h : i < n
  · rw [List.getElem?_append_left (by rw [bl_length]; exact h), bl_get n f i h, bl_get _ _ i (by omega)]
    unfold Sha.cat; rw [if_pos h]
  · rw [List.getElem?_append_right (by rw [bl_length]; omega), bl_length]
    by_cases h2 : i < n + m
    · rw [bl_get m g _ (by omega), bl_get _ _ i h2]
      unfold Sha.cat; rw [if_neg h]
    · rw [List.getElem?_eq_none (by rw [bl_length]; omega), List.getElem?_eq_none (by rw [bl_length]; omega)]
theorem bl_congr {n : Nat} {f g : Nat → Nat} (h : ∀ i, i < n → f i = g i) : bl n f = bl n g :=
  List.map_congr_left fun i hi => by rw [h i (List.mem_range.1 hi)]

theorem bl_succ (n : Nat) (f : Nat → Nat) : bl n f ++ bl 1 (fun _ => f n) = bl (n + 1) f := by
  rw [bl_cat]
  refine bl_congr fun i hi => ?_
  unfold Sha.cat
  by_cases h : i < n
  · rw [if_pos h]
  · rw [if_neg h, show i = n by omega]

/-- append of bytes to an own row. -/
theorem wpList_append_b (w : World) {ops : Array Oper} {rest : List Oper} {o : Oper} {a : Act} {Q : Exit → Act → World → Prop} (hgd : o.guard = none) (s x : Operand)
    (ho : o.op = .call { callee := .builtin .append, args := #[s, x], argTypes := #[33, 33] }) (base : Nat) (v : Value) (n : Nat) (xs : List Value) (hs : a.eval s = v) (hown : w.ownsRow base 5 1 v n xs)
    (p : Option Addr) (m c : Nat) (f : Nat → Nat) (hx : a.eval x = .slice p m c) (hb : Bytes w p m c f) (hle : n + m ≤ 140737488355328) (hbase : base ≤ w.heap.size)
    (h : ∀ v' w', Hid (w'.ownsRow base 5 1 v' (n + m) (xs ++ bl m f) ∧ Below base w w') → wpList Tryd.prog ops Q rest (a.put o.dst v') w') : wpList Tryd.prog ops Q (o :: rest) a w := by
  obtain ⟨i, hi, hzz⟩ := Option.map_eq_some_iff.1 info8
  simp only [Prod.mk.injEq] at hzz
  obtain ⟨hz, hs1, hb1⟩ := hzz
  cases p with
  | none =>
    have hc := hb.nil rfl
    have hm : m = 0 := by have := hb.le; omega
    subst hc hm
    refine wpList_append_own_none hgd s x 33 ho base 5 i 1 Tryd.underlying33 hi v n xs hs hown hx ?_
    exact h v w (Lib.hid ⟨by simpa [bl] using hown, Below.refl _ _⟩)
  | some ad =>
    have hplain : ∀ j u, (bl m f)[j]? = some u → w.cell? (ad.add j) = some u := fun j u hu => by
      have hj : j < m := by have := (List.getElem?_eq_some_iff.1 hu).1; rw [bl_length] at this; exact this
      obtain ⟨B, off, h1, _, _⟩ := hb.lies (by omega)
      obtain rfl : ad = ⟨B, off, none⟩ := by simpa using h1
      exact hb.cells j u hu
    refine wpList_append_own w hgd s x 33 ho base 5 i (.int .u8 0) 1 1 Tryd.underlying33 hi hz hs1 hb1 rfl (by decide) v n xs hs hown ad m c (bl m f) hx (by rw [bl_length, Nat.mul_one]) hplain (bl_one m f) (by unfold maxLen; omega) (by omega) hbase ?_
    intro v' w' h1 h2 h3
    exact h v' w' (Lib.hid ⟨h1, below_grown h2 (fun k hk => (hown.lt k hk).1) hbase⟩)

theorem byte_new (w : World) (x : Nat) (hx : x < 256) : Bytes (w.alloc (.cells #[.int .u8 (x : Int)] 5)) (some ⟨w.heap.size, 0, none⟩) 1 1 (fun _ => x) :=
  ⟨fun _ => ⟨w.heap.size, 0, rfl, by rw [alloc_size]; exact Nat.lt_succ_self _, fun i hi => by
    obtain rfl : i = 0 := by omega
    rw [Nat.zero_add, World.cell?_alloc_new]; rfl⟩, fun _ _ => hx, Nat.le_refl _, fun e => by cases e⟩

/-- a number as a word of 64 bits; its eight bytes. -/
def uN (v : Int) : Nat := (v % 18446744073709551616).toNat
def by8 (V : Nat) (i : Nat) : Nat := V / 2 ^ (56 - 8 * i) % 256
theorem by8_lt (V i : Nat) : by8 V i < 256 := Nat.mod_lt _ (by decide)
theorem uN_wrap (v : Int) : IntKind.u64.wrap v = (uN v : Int) := by rw [IntKind.wrap_u64]; unfold uN; omega

set_option maxHeartbeats 4000000 in
set_option maxRecDepth 100000 in
theorem number_any (v : Int) (w : World) :
    Calls Tryd.prog 60 #[.int .i64 v] w fun e w' => ∃ r, e = .returned r ∧ w'.ownsRow w.heap.size 5 1 r 8 (bl 8 (by8 (uN v))) ∧ Below w.heap.size w w' := by
  have e1 := uN_wrap v
  go_enter Tryd.func60, Tryd.ntmps60
  go_wp2_with fail
  go_loopg [2, 4] 8 (fun g x y w2 => ∃ (r : Value) (i : Nat), x = r ∧ y = .int .i64 i ∧ i + g = 8 ∧ Hid (w2.ownsRow w.heap.size 5 1 r i (bl i (by8 (uN v))) ∧ Below w.heap.size w w2))
  case atStart => exact ⟨_, 0, rfl, rfl, rfl, Lib.hid ⟨World.ownsRow_nil _ _ _ _, Below.refl _ _⟩⟩
  case round =>
    obtain ⟨r, i, rfl, rfl, hi, ho⟩ := hrel
    by_cases h : i < 8
    · have t1 : decide ((i : Int) < 8) = true := by rw [decide_eq_true_eq]; omega
      have t1' : decide (i < 8) = true := by rw [decide_eq_true_eq]; omega
      have b1 : (i : Int) ≤ 7 := by omega
      obtain ⟨s, hs⟩ : ∃ s, s = 56 - 8 * i := ⟨_, rfl⟩
      have e2 : (56 : Int) - 8 * (i : Int) = (s : Int) := by omega
      have b2 : (s : Int) ≤ 56 := by omega
      obtain ⟨q, hq⟩ : ∃ q, q = uN v / 2 ^ s := ⟨_, rfl⟩
      have e3 : (uN v : Int) / 2 ^ s = (q : Int) := by rw [hq]; push_cast; rfl
      obtain ⟨z, hz⟩ : ∃ z, z = by8 (uN v) i := ⟨_, rfl⟩
      have e4 : IntKind.u8.wrap (q : Int) = (z : Int) := by
        rw [hz, by8, ← hs, ← hq]
        simp only [IntKind.wrap, IntKind.bits, IntKind.signed]; simp
      have hzl : z < 256 := by rw [hz]; exact by8_lt _ _
      have HZ := Lib.hid hz
      have HZL := Lib.hid hzl
      have HI := Lib.hid hi
      have H8 := Lib.hid h
      generalize uN v = V at *
      clear hs hq hz hzl hi h
      go_wp2_with (at_builtin; refine wpList_append_b _ rfl (.tmp 7) (.tmp 15) rfl w.heap.size _ i _ rfl (ho.out.1.alloc _) _ 1 1 (fun _ => z) rfl (byte_new _ z HZL.out) (by have := H8.out; omega) (by have := ho.out.2.size; rw [alloc_size]; omega) ?_; intro v2 w2 ho2)
      have e5 : bl i (by8 V) ++ bl 1 (fun _ => z) = bl (i + 1) (by8 V) := by rw [HZ.out]; exact bl_succ i (by8 V)
      rw [e5] at ho2
      go_roundg (8 - (i + 1))
      case rel => exact ⟨_, i + 1, rfl, by go_num, by have := H8.out; omega, Lib.hid ⟨ho2.out.1, (ho.out.2.alloc ho.out.2.size _).trans ho2.out.2⟩⟩
      case measure => have := HI.out; have := H8.out; omega
    · obtain rfl : i = 8 := by omega
      have t1 : decide (((8 : Nat) : Int) < 8) = false := by decide
      clear h hi
      go_wp2_with fail
      go_ret
      exact ⟨_, rfl, ho.out⟩

/-- numbers as bytes, eight each. -/
def nb8 (nums : Nat → Int) (i : Nat) : Nat := by8 (uN (nums (i / 8))) (i % 8)
theorem nb8_lt (nums : Nat → Int) (i : Nat) : nb8 nums i < 256 := by8_lt _ _
theorem nb8_at (nums : Nat → Int) (j i : Nat) (h : i < 8) : nb8 nums (8 * j + i) = by8 (uN (nums j)) i := by
  unfold nb8
  rw [show (8 * j + i) / 8 = j by omega, show (8 * j + i) % 8 = i by omega]

set_option maxHeartbeats 4000000 in
set_option maxRecDepth 100000 in
/-- sign.hash. -/
theorem hash_any (tag : ByteArray) (p : Option Addr) (n c : Nat) (f : Nat → Nat) (B K : Nat) (nums : Nat → Int) (w : World) (hT : Tabs w) (hb : Bytes w p n c f) (hB : B < w.heap.size) (hK : K ≤ 3)
    (hc : ∀ i, i < K → w.cell? ⟨B, i, none⟩ = some (.int .i64 (nums i))) (hn : n ≤ 1000) (htag : tag.size ≤ 300) :
    Calls Tryd.prog 84 #[.string tag, .slice p n c, .slice (some ⟨B, 0, none⟩) K K] w fun e w' => e = .returned (.int .i64 (scOf tag (8 * K + n) (Sha.cat (8 * K) (nb8 nums) f) : Nat)) ∧ Below w.heap.size w w' := by
  have HT := Lib.hid hT
  have HB := Lib.hid hb
  have HBB := Lib.hid hB
  have HC := Lib.hid hc
  have HN := Lib.hid (show _ ∧ _ ∧ _ from ⟨hn, htag, hK⟩)
  have b0 : (K : Int) ≤ 3 := by omega
  clear hT hb hB hc hn htag hK
  go_enter Tryd.func84, Tryd.ntmps84
  go_wp2_with fail
  go_loopg [7, 13] K (fun g x y w2 => ∃ (r : Value) (j : Nat), x = r ∧ y = .int .i64 j ∧ j + g = K ∧ Hid (w2.ownsRow w.heap.size 5 1 r (8 * j) (bl (8 * j) (nb8 nums)) ∧ Below w.heap.size w w2))
  case atStart => exact ⟨_, 0, rfl, rfl, Nat.zero_add _, Lib.hid ⟨World.ownsRow_nil _ _ _ _, Below.refl _ _⟩⟩
  case round =>
    obtain ⟨r, j, rfl, rfl, hj, ho⟩ := hrel
    by_cases h : j < K
    · have t1 : decide ((j : Int) < (K : Int)) = true := by rw [decide_eq_true_eq]; omega
      have t1' : decide (j < K) = true := by rw [decide_eq_true_eq]; omega
      have b1 : (j : Int) < K := by omega
      have hcell : wr.cell? ⟨B, j, none⟩ = some (.int .i64 (nums j)) := (ho.out.2.cell (p := ⟨B, j, none⟩) HBB.out).trans (HC.out j h)
      obtain ⟨v, hv⟩ : ∃ v, v = nums j := ⟨_, rfl⟩
      rw [← hv] at hcell
      have HV := Lib.hid hv
      have HJ := Lib.hid hj
      have HJK := Lib.hid h
      clear hv hj h
      have e1 := uN_wrap v
      go_wp2_with fail
      go_loopg [7, 10] 8 (fun g x y w2 => ∃ (r : Value) (i : Nat), x = r ∧ y = .int .i64 (56 - 8 * (i : Int)) ∧ i + g = 8 ∧ Hid (w2.ownsRow w.heap.size 5 1 r (8 * j + i) (bl (8 * j + i) (nb8 nums)) ∧ Below w.heap.size w w2))
      case atStart => exact ⟨_, 0, rfl, rfl, rfl, ho⟩
      case round =>
        clear hcell ho
        obtain ⟨r, i, rfl, rfl, hi, ho⟩ := hrel
        by_cases h : i < 8
        · obtain ⟨s, hs⟩ : ∃ s, s = 56 - 8 * i := ⟨_, rfl⟩
          have e2 : (56 : Int) - 8 * (i : Int) = (s : Int) := by omega
          have b2 : (s : Int) ≤ 56 := by omega
          have t2 : decide ((0 : Int) ≤ (s : Int)) = true := by rw [decide_eq_true_eq]; omega
          obtain ⟨q, hq⟩ : ∃ q, q = uN v / 2 ^ s := ⟨_, rfl⟩
          have e3 : (uN v : Int) / 2 ^ s = (q : Int) := by rw [hq]; push_cast; rfl
          obtain ⟨z, hz⟩ : ∃ z, z = by8 (uN v) i := ⟨_, rfl⟩
          have e4 : IntKind.u8.wrap (q : Int) = (z : Int) := by
            rw [hz, by8, ← hs, ← hq]
            simp only [IntKind.wrap, IntKind.bits, IntKind.signed]; simp
          have hzl : z < 256 := by rw [hz]; exact by8_lt _ _
          have e6 : (s : Int) - 8 = 56 - 8 * ((i + 1 : Nat) : Int) := by omega
          have E6 := Lib.hid e6
          have HZ : Hid (z = nb8 nums (8 * j + i)) := Lib.hid (by rw [hz, HV.out, nb8_at nums j i h])
          have HZL := Lib.hid hzl
          have HI := Lib.hid hi
          have H8 := Lib.hid h
          have hk3 : 8 * j + i + 1 ≤ 140737488355328 := by have := HJK.out; have := HN.out.2.2; omega
          have HK3 := Lib.hid hk3
          generalize uN v = V at *
          clear hs hq hz hzl hi h e6 hk3
          go_wp2_with (at_builtin; refine wpList_append_b _ rfl (.tmp 21) (.tmp 27) rfl w.heap.size _ (8 * j + i) _ rfl (ho.out.1.alloc _) _ 1 1 (fun _ => z) rfl (byte_new _ z HZL.out) HK3.out (by have := ho.out.2.size; rw [alloc_size]; omega) ?_; intro v2 w2 ho2)
          have e5 : bl (8 * j + i) (nb8 nums) ++ bl 1 (fun _ => z) = bl (8 * j + i + 1) (nb8 nums) := by
            rw [HZ.out]
            exact bl_succ _ _
          rw [e5] at ho2
          go_roundg (8 - (i + 1))
          case rel => exact ⟨_, i + 1, rfl, by rw [E6.out], by have := H8.out; omega, Lib.hid ⟨ho2.out.1, (ho.out.2.alloc ho.out.2.size _).trans ho2.out.2⟩⟩
          case measure => have := HI.out; have := H8.out; omega
        · obtain rfl : i = 8 := by omega
          have t2 : decide ((0 : Int) ≤ 56 - 8 * ((8 : Nat) : Int)) = false := by decide
          clear h hi
          go_wp2_with fail
          go_roundg (K - (j + 1))
          case rel => exact ⟨_, j + 1, rfl, by go_num, by have := HJK.out; omega, ho⟩
          case measure => have := HJ.out; have := HJK.out; omega
    · obtain rfl : j = K := by omega
      have t1 : decide ((j : Int) < (j : Int)) = false := by rw [decide_eq_false_iff_not]; omega
      have hA := Lib.hid (HB.out.below ho.out.2 (Nat.le_refl _))
      have hle : 8 * j + n ≤ 140737488355328 := by have := HN.out; omega
      have HLE := Lib.hid hle
      clear h hj hle
      go_wp2_with (at_builtin; refine wpList_append_b _ rfl (.tmp 31) (.tmp 32) rfl w.heap.size _ (8 * j) _ rfl ho.out.1 p n c f rfl hA.out HLE.out ho.out.2.size ?_; intro v2 w2 ho2)
      have ho3 := ho2.out.1
      rw [bl_cat] at ho3
      obtain ⟨p2, c2, rfl, hb2, hc2⟩ := Bytes.own ho3 (fun i hi => bl_get _ _ i hi) (fun i hi => by
        unfold Sha.cat
        by_cases h : i < 8 * j
        · rw [if_pos h]; exact nb8_lt _ _
        · rw [if_neg h]; exact HB.out.byte _ (by omega))
      have hB2 := Lib.hid (ho.out.2.trans ho2.out.2)
      have HS := Lib.hid (scalar_any tag p2 (8 * j + n) c2 (Sha.cat (8 * j) (nb8 nums) f) w2 (HT.out.below hB2.out) hb2 (by have := HN.out; omega) (by have := HN.out; omega) hc2)
      clear ho ho2 ho3 hb2 hc2 hA
      go_wp2_with fail
      refine HS.out.mono ?_
      rintro e w3 ⟨rfl, hb3⟩
      have hB3 := Lib.hid (hB2.out.trans (hb3.mono hB2.out.size))
      clear hb3 HS hB2
      go_wp2_with fail
      go_ret
      exact ⟨rfl, hB3.out⟩

theorem owns_below {w w' : World} {base b e size : Nat} {v : Value} {n : Nat} {xs : List Value} (h : w.ownsRow base e size v n xs) (hb : Below b w w') (hs : w.heap.size ≤ b) : w'.ownsRow base e size v n xs := by
  refine ⟨h.1, ?_⟩
  rcases h.2 with h0 | ⟨g, cap, cur, hv, hg1, hg, hrest⟩
  · exact .inl h0
  · exact .inr ⟨g, cap, cur, hv, hg1, by rw [hb.block g (by have := (Array.getElem?_eq_some_iff.1 hg).1; omega)]; exact hg, hrest⟩

/-- the tag of a challenge. -/
def signT : ByteArray := ⟨#[115, 105, 103, 110]⟩
def nonceT : ByteArray := ⟨#[110, 111, 110, 99, 101]⟩
theorem nb8_two (x y : Int) (i : Nat) (h : i < 16) : Sha.cat 8 (by8 (uN x)) (by8 (uN y)) i = nb8 (two x y) i := by
  unfold Sha.cat nb8 two
  by_cases h8 : i < 8
  · rw [if_pos h8, if_pos (by omega), show i % 8 = i by omega]
  · rw [if_neg h8, if_neg (by omega), show i % 8 = i - 8 by omega]
/-- the challenge. -/
def chOf (r pub : Int) (n : Nat) (f : Nat → Nat) : Nat := scOf signT (8 * 2 + n) (Sha.cat (8 * 2) (nb8 (two r pub)) f)
def noOf (x : Int) (n : Nat) (f : Nat → Nat) : Nat := scOf nonceT (8 * 1 + n) (Sha.cat (8 * 1) (nb8 (fun _ => x)) f)

set_option maxHeartbeats 4000000 in
set_option maxRecDepth 100000 in
theorem challenge_any (pub r : Int) (p : Option Addr) (n c : Nat) (f : Nat → Nat) (w : World) (hT : Tabs w) (hb : Bytes w p n c f) (hn : n ≤ 1000) :
    Calls Tryd.prog 57 #[.int .i64 pub, .int .i64 r, .slice p n c] w fun e w' => e = .returned (.int .i64 (chOf r pub n f : Nat)) ∧ Below w.heap.size w w' := by
  have HT := Lib.hid hT
  have HB := Lib.hid hb
  have HN := Lib.hid hn
  clear hT hb hn
  go_enter Tryd.func57, Tryd.ntmps57
  go_wp2_with fail
  refine (number_any r w).mono ?_
  rintro e w1 ⟨v1, rfl, hr1, hb1⟩
  have HR1 := Lib.hid hr1
  have HB1 := Lib.hid hb1
  clear hr1 hb1
  go_wp2_with fail
  refine (number_any pub w1).mono ?_
  rintro e w2 ⟨v2, rfl, hr2, hb2⟩
  have HR2 := Lib.hid (owns_below HR1.out hb2 (Nat.le_refl _))
  have HB2 := Lib.hid (HB1.out.trans (hb2.mono HB1.out.size))
  obtain ⟨p2, c2, rfl, hby2, hc2⟩ := Bytes.own hr2 (fun i hi => bl_get _ _ i hi) (fun i _ => by8_lt _ _)
  have HY2 := Lib.hid hby2
  have HMB := Lib.hid (HB.out.below HB2.out (Nat.le_refl _))
  have hsz := HB2.out.size
  have HSZ := Lib.hid hsz
  clear hb2 hr2 hby2 hc2 HR1 HB1 hsz
  go_wp2_with first
    | (at_builtin; refine wpList_append_b _ rfl (.tmp 8) (.tmp 10) rfl w.heap.size _ 8 _ rfl HR2.out p2 8 c2 _ rfl HY2.out (by omega) HSZ.out ?_; intro v3 w3 ho3)
    | (at_builtin; refine wpList_append_b _ rfl (.tmp 11) (.tmp 12) rfl w.heap.size _ (8 + 8) _ rfl ho3.out.1 p n c f rfl (HB.out.below (HB2.out.trans ho3.out.2) (Nat.le_refl _)) (by have := HN.out; omega) (HB2.out.trans ho3.out.2).size ?_; intro v4 w4 ho4)
  have ho5 := ho4.out.1
  rw [bl_cat, bl_cat] at ho5
  have hB4 := Lib.hid ((HB2.out.trans ho3.out.2).trans ho4.out.2)
  have hcg : ∀ i, i < 8 + 8 + n → Sha.cat (8 + 8) (Sha.cat 8 (by8 (uN r)) (by8 (uN pub))) f i = Sha.cat (8 * 2) (nb8 (two r pub)) f i := fun i _ => by
    show (if i < 8 + 8 then Sha.cat 8 (by8 (uN r)) (by8 (uN pub)) i else f (i - (8 + 8))) = (if i < 8 * 2 then nb8 (two r pub) i else f (i - 8 * 2))
    by_cases h : i < 16
    · rw [if_pos (by omega), if_pos (by omega), nb8_two r pub i h]
    · rw [if_neg (by omega), if_neg (by omega)]
  rw [bl_congr hcg] at ho5
  obtain ⟨p5, c5, rfl, hb5, hc5⟩ := Bytes.own ho5 (fun i hi => bl_get _ _ i hi) (fun i hi => by
    unfold Sha.cat
    by_cases h : i < 8 * 2
    · rw [if_pos h]; exact nb8_lt _ _
    · rw [if_neg h]; exact HB.out.byte _ (by omega))
  have HS := Lib.hid (scalar_any signT p5 (8 + 8 + n) c5 (Sha.cat (8 * 2) (nb8 (two r pub)) f) w4 (HT.out.below hB4.out) hb5 (by have := HN.out; omega) (by decide) hc5)
  have HS2 : Hid (Calls Tryd.prog 30 #[.string signT, .slice p5 (8 + 8 + n) c5] w4 fun e w' => e = .returned (.int .i64 (chOf r pub n f : Nat)) ∧ Below w4.heap.size w4 w') := HS
  clear ho3 ho4 ho5 hb5 hc5 hcg HS HR2 HY2 HMB
  obtain ⟨z, hz⟩ : ∃ z, z = chOf r pub n f := ⟨_, rfl⟩
  rw [← hz] at HS2
  have HZ := Lib.hid hz
  clear hz
  go_wp2_with fail
  refine HS2.out.mono ?_
  rintro e w5 ⟨rfl, hb5⟩
  have hB5 := Lib.hid (hB4.out.trans (hb5.mono hB4.out.size))
  clear hb5 HS2 hB4
  go_wp2_with fail
  go_ret
  exact ⟨by rw [← HZ.out]; rfl, hB5.out⟩
end Go.Proofs.YtelikpkekloffaaDoor
