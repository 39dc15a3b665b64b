/- The walk of the document's answer for decode: Decode. -/
import Derived.Test.YtapgojgcmlnbgabKHS929
set_option linter.unusedSimpArgs false
set_option linter.unusedVariables false

namespace Go.Proofs.Ytapgojgcmlnbgab
open Go.RowKit

theorem formR_bd (low mid up w : Int) : 0 ≤ (formR low mid up w).2 ∧ (formR low mid up w).2 ≤ 7 := by
  have key : ∀ (c : Prop) [Decidable c] (a b : Int × Int), (0 ≤ a.2 ∧ a.2 ≤ 7) → (0 ≤ b.2 ∧ b.2 ≤ 7) → (0 ≤ (if c then a else b).2 ∧ (if c then a else b).2 ≤ 7) := fun c _ a b ha hb => by
    by_cases h : c
    · rw [if_pos h]; exact ha
    · rw [if_neg h]; exact hb
  unfold formR
  repeat' apply key
  all_goals exact ⟨by simp, by simp⟩
set_option maxRecDepth 100000 in
set_option maxHeartbeats 1000000 in
theorem rdec_0 (x op : Int) (w : World) (h0 : 0 ≤ x) (h1 : x ≤ 4294967295) (ho0 : 0 ≤ op) (ho1 : op ≤ 48) (CF : Hid (∀ W, Calls Try.prog 55 #[.int .u32 x] W fun e w' => e = .returned (.tuple #[.int .i64 op, .int .u8 85]) ∧ Below W.heap.size W w')) :
    Calls Try.prog 27 #[.int .u32 x] w fun e w' => e = .returned (.tuple #[.agg (readP op 0 x).cells, .bool true]) ∧ Below w.heap.size w w' := by
  obtain ⟨c7_110, c7_111⟩ := cut_hi x 7 11 32 (by decide)
  obtain ⟨c15_190, c15_191⟩ := cut_hi x 15 19 32 (by decide)
  obtain ⟨c20_240, c20_241⟩ := cut_hi x 20 24 32 (by decide)
  obtain ⟨c31_310, c31_311⟩ := cut_hi x 31 31 2 (by decide)
  have hw : wrap32 (sg x - cutI x 0 11) = sgnI (x - cutI x 0 11) 32 := by
    have c := cut_eq x 0 11 1 4096 (by decide) (by decide)
    unfold sgnI wrap32 sg
    rw [show (2 : Int) ^ (32 - 1) = 2147483648 by decide, show (2 : Int) ^ 32 = 4294967296 by decide]
    (repeat' split) <;> omega
  obtain ⟨c0_110, c0_111⟩ := cut_hi x 0 11 4096 (by decide)
  have sg0 := sg_lo h0 h1
  have sg1 := sg_hi h0 h1
  go_enter Try.func27, Try.ntmps27
  go_upto_region 1 with (fail)
  refine wp_gen fun wa hq => ?_
  have hR : Blk wa w.heap.size 40 #[.int .i64 0, .int .i64 0, .int .i64 0, .int .i64 0, .int .i32 0] := by rw [hq]; exact Blk.new w _ _
  have hb : Below w.heap.size w wa := by rw [hq]; exact (Below.refl _ _).alloc (Nat.le_refl _) _
  clear hq
  go_upto_region 7 with (first
    | (go_at_call 55; (with_reducible refine (CF.out _).mono ?_); rintro e w2 ⟨rfl, hb1⟩)
    | (refine wpList_build_to rfl 40 _ rfl [(0, .int .i64 op)] ?_ _ (built_ins op) ?_; kernel_rfl)
    | (refine wpList_store_all rfl 40 _ _ rfl w2.heap.size #[.int .i64 op, .int .i64 0, .int .i64 0, .int .i64 0, .int .i32 0] rfl rfl 40 _ (Blk.new w2 _ _) ins_info rfl ins_one ?_; intro wq hI hg1))
  have zR := hR.lt
  have hge0 := hb1.size
  replace hR := ((hR.ext hb1).alloc (.cells #[.int .i64 0, .int .i64 0, .int .i64 0, .int .i64 0, .int .i32 0] 40)).grown hg1 (by have := (hR.ext hb1).lt; simp; omega)
  have Hge := Lib.hid (show w.heap.size ≤ w2.heap.size from Nat.le_trans hb.size hb1.size)
  have Hne := Lib.hid (show w.heap.size ≠ w2.heap.size by omega)
  replace hb := below_grown ((hb.trans (hb1.mono hb.size)).alloc Hge.out (.cells #[.int .i64 0, .int .i64 0, .int .i64 0, .int .i64 0, .int .i32 0] 40)) hg1 (by have := Hge.out; simp; omega) Hge.out
  clear hb1 hg1 zR hge0 CF
  go_simp
  have hIc := hI.cell
  have hIf := hI.frozen
  have zI := hI.lt
  go_upto_region 40 with (first
    | (go_at_call 56; (with_reducible refine (rcut_7_11 x _ h0 h1).mono ?_); rintro e w1 ⟨rfl, rfl⟩)
    | (go_at_call 56; (with_reducible refine (rcut_15_19 x _ h0 h1).mono ?_); rintro e w1 ⟨rfl, rfl⟩)
    | (go_at_call 56; (with_reducible refine (rcut_20_24 x _ h0 h1).mono ?_); rintro e w1 ⟨rfl, rfl⟩)
    | (go_at_call 56; (with_reducible refine (rcut_31_31 x _ h0 h1).mono ?_); rintro e w1 ⟨rfl, rfl⟩)
    | (go_at_call 56; (with_reducible refine (rcut_0_11 x _ h0 h1).mono ?_); rintro e w1 ⟨rfl, rfl⟩)
    | (go_at_call 57; (with_reducible refine (signed_any x _ h0 h1).mono ?_); rintro e w1 ⟨rfl, rfl⟩))
  refine wp_gen fun wr hq => ?_
  have hI2 : Blk wr w2.heap.size 40 (readP op 0 x).cells := by rw [hq]; exact ((hI).set 1 _).set 4 _
  have hR2 : Blk wr w.heap.size 40 #[.int .i64 0, .int .i64 0, .int .i64 0, .int .i64 0, .int .i32 0] := by rw [hq]; exact ((hR).farAt Hne.out _).farAt Hne.out _
  have hb2 : Below w.heap.size w wr := by rw [hq]; exact below_set Hge.out (below_set Hge.out (hb))
  clear hq hIc hIf zI hI hR hb
  obtain ⟨i, hi⟩ : ∃ i, i = readP op 0 x := ⟨_, rfl⟩
  rw [← hi] at hI2
  have Hi := Lib.hid hi
  clear hi
  have hs2 := hb2.size
  have zR := hR2.lt
  go_wp2_with (first
    | (refine wpList_load_all rfl 40 _ rfl w2.heap.size rfl 40 _ _ hI2 Try.underlying40 rfl ins_info ?_)
    | (refine wpList_store_all rfl 40 _ _ rfl w.heap.size i.cells rfl rfl 40 _ hR2 ins_info rfl ins_one ?_; intro w5 hB5 hg5; have hBc := hB5.cell))
  exact bodyPost_ret (v := .tuple #[.agg i.cells, .bool true]) (by simp [results, Try.results27, go_sem, hBc]) rfl ⟨by rw [Hi.out], below_grown hb2 hg5 hs2 (Nat.le_refl _)⟩
set_option maxRecDepth 100000 in
set_option maxHeartbeats 1000000 in
theorem rdec_1 (x op : Int) (w : World) (h0 : 0 ≤ x) (h1 : x ≤ 4294967295) (ho0 : 0 ≤ op) (ho1 : op ≤ 48) (CF : Hid (∀ W, Calls Try.prog 55 #[.int .u32 x] W fun e w' => e = .returned (.tuple #[.int .i64 op, .int .u8 74]) ∧ Below W.heap.size W w')) :
    Calls Try.prog 27 #[.int .u32 x] w fun e w' => e = .returned (.tuple #[.agg (readP op 1 x).cells, .bool true]) ∧ Below w.heap.size w w' := by
  obtain ⟨c7_110, c7_111⟩ := cut_hi x 7 11 32 (by decide)
  obtain ⟨c15_190, c15_191⟩ := cut_hi x 15 19 32 (by decide)
  obtain ⟨c20_240, c20_241⟩ := cut_hi x 20 24 32 (by decide)
  obtain ⟨c31_310, c31_311⟩ := cut_hi x 31 31 2 (by decide)
  obtain ⟨c12_190, c12_191⟩ := cut_hi x 12 19 256 (by decide)
  obtain ⟨c20_200, c20_201⟩ := cut_hi x 20 20 2 (by decide)
  obtain ⟨c21_300, c21_301⟩ := cut_hi x 21 30 1024 (by decide)
  go_enter Try.func27, Try.ntmps27
  go_upto_region 1 with (fail)
  refine wp_gen fun wa hq => ?_
  have hR : Blk wa w.heap.size 40 #[.int .i64 0, .int .i64 0, .int .i64 0, .int .i64 0, .int .i32 0] := by rw [hq]; exact Blk.new w _ _
  have hb : Below w.heap.size w wa := by rw [hq]; exact (Below.refl _ _).alloc (Nat.le_refl _) _
  clear hq
  go_upto_region 7 with (first
    | (go_at_call 55; (with_reducible refine (CF.out _).mono ?_); rintro e w2 ⟨rfl, hb1⟩)
    | (refine wpList_build_to rfl 40 _ rfl [(0, .int .i64 op)] ?_ _ (built_ins op) ?_; kernel_rfl)
    | (refine wpList_store_all rfl 40 _ _ rfl w2.heap.size #[.int .i64 op, .int .i64 0, .int .i64 0, .int .i64 0, .int .i32 0] rfl rfl 40 _ (Blk.new w2 _ _) ins_info rfl ins_one ?_; intro wq hI hg1))
  have zR := hR.lt
  have hge0 := hb1.size
  replace hR := ((hR.ext hb1).alloc (.cells #[.int .i64 0, .int .i64 0, .int .i64 0, .int .i64 0, .int .i32 0] 40)).grown hg1 (by have := (hR.ext hb1).lt; simp; omega)
  have Hge := Lib.hid (show w.heap.size ≤ w2.heap.size from Nat.le_trans hb.size hb1.size)
  have Hne := Lib.hid (show w.heap.size ≠ w2.heap.size by omega)
  replace hb := below_grown ((hb.trans (hb1.mono hb.size)).alloc Hge.out (.cells #[.int .i64 0, .int .i64 0, .int .i64 0, .int .i64 0, .int .i32 0] 40)) hg1 (by have := Hge.out; simp; omega) Hge.out
  clear hb1 hg1 zR hge0 CF
  go_simp
  have hIc := hI.cell
  have hIf := hI.frozen
  have zI := hI.lt
  go_upto_region 40 with (first
    | (go_at_call 56; (with_reducible refine (rcut_7_11 x _ h0 h1).mono ?_); rintro e w1 ⟨rfl, rfl⟩)
    | (go_at_call 56; (with_reducible refine (rcut_15_19 x _ h0 h1).mono ?_); rintro e w1 ⟨rfl, rfl⟩)
    | (go_at_call 56; (with_reducible refine (rcut_20_24 x _ h0 h1).mono ?_); rintro e w1 ⟨rfl, rfl⟩)
    | (go_at_call 56; (with_reducible refine (rcut_31_31 x _ h0 h1).mono ?_); rintro e w1 ⟨rfl, rfl⟩)
    | (go_at_call 56; (with_reducible refine (rcut_12_19 x _ h0 h1).mono ?_); rintro e w1 ⟨rfl, rfl⟩)
    | (go_at_call 56; (with_reducible refine (rcut_20_20 x _ h0 h1).mono ?_); rintro e w1 ⟨rfl, rfl⟩)
    | (go_at_call 56; (with_reducible refine (rcut_21_30 x _ h0 h1).mono ?_); rintro e w1 ⟨rfl, rfl⟩)
    | (go_at_call 58; (with_reducible refine (rsigned_21 _ _ ?_ ?_).mono ?_); omega; omega; rintro e w1 ⟨rfl, rfl⟩))
  refine wp_gen fun wr hq => ?_
  have hI2 : Blk wr w2.heap.size 40 (readP op 1 x).cells := by rw [hq]; exact ((hI).set 1 _).set 4 _
  have hR2 : Blk wr w.heap.size 40 #[.int .i64 0, .int .i64 0, .int .i64 0, .int .i64 0, .int .i32 0] := by rw [hq]; exact ((hR).farAt Hne.out _).farAt Hne.out _
  have hb2 : Below w.heap.size w wr := by rw [hq]; exact below_set Hge.out (below_set Hge.out (hb))
  clear hq hIc hIf zI hI hR hb
  obtain ⟨i, hi⟩ : ∃ i, i = readP op 1 x := ⟨_, rfl⟩
  rw [← hi] at hI2
  have Hi := Lib.hid hi
  clear hi
  have hs2 := hb2.size
  have zR := hR2.lt
  go_wp2_with (first
    | (refine wpList_load_all rfl 40 _ rfl w2.heap.size rfl 40 _ _ hI2 Try.underlying40 rfl ins_info ?_)
    | (refine wpList_store_all rfl 40 _ _ rfl w.heap.size i.cells rfl rfl 40 _ hR2 ins_info rfl ins_one ?_; intro w5 hB5 hg5; have hBc := hB5.cell))
  exact bodyPost_ret (v := .tuple #[.agg i.cells, .bool true]) (by simp [results, Try.results27, go_sem, hBc]) rfl ⟨by rw [Hi.out], below_grown hb2 hg5 hs2 (Nat.le_refl _)⟩
set_option maxRecDepth 100000 in
set_option maxHeartbeats 1000000 in
theorem rdec_2 (x op : Int) (w : World) (h0 : 0 ≤ x) (h1 : x ≤ 4294967295) (ho0 : 0 ≤ op) (ho1 : op ≤ 48) (CF : Hid (∀ W, Calls Try.prog 55 #[.int .u32 x] W fun e w' => e = .returned (.tuple #[.int .i64 op, .int .u8 73]) ∧ Below W.heap.size W w')) :
    Calls Try.prog 27 #[.int .u32 x] w fun e w' => e = .returned (.tuple #[.agg (readP op 2 x).cells, .bool true]) ∧ Below w.heap.size w w' := by
  obtain ⟨c7_110, c7_111⟩ := cut_hi x 7 11 32 (by decide)
  obtain ⟨c15_190, c15_191⟩ := cut_hi x 15 19 32 (by decide)
  obtain ⟨c20_240, c20_241⟩ := cut_hi x 20 24 32 (by decide)
  obtain ⟨c31_310, c31_311⟩ := cut_hi x 31 31 2 (by decide)
  obtain ⟨c20_310, c20_311⟩ := cut_hi x 20 31 4096 (by decide)
  go_enter Try.func27, Try.ntmps27
  go_upto_region 1 with (fail)
  refine wp_gen fun wa hq => ?_
  have hR : Blk wa w.heap.size 40 #[.int .i64 0, .int .i64 0, .int .i64 0, .int .i64 0, .int .i32 0] := by rw [hq]; exact Blk.new w _ _
  have hb : Below w.heap.size w wa := by rw [hq]; exact (Below.refl _ _).alloc (Nat.le_refl _) _
  clear hq
  go_upto_region 7 with (first
    | (go_at_call 55; (with_reducible refine (CF.out _).mono ?_); rintro e w2 ⟨rfl, hb1⟩)
    | (refine wpList_build_to rfl 40 _ rfl [(0, .int .i64 op)] ?_ _ (built_ins op) ?_; kernel_rfl)
    | (refine wpList_store_all rfl 40 _ _ rfl w2.heap.size #[.int .i64 op, .int .i64 0, .int .i64 0, .int .i64 0, .int .i32 0] rfl rfl 40 _ (Blk.new w2 _ _) ins_info rfl ins_one ?_; intro wq hI hg1))
  have zR := hR.lt
  have hge0 := hb1.size
  replace hR := ((hR.ext hb1).alloc (.cells #[.int .i64 0, .int .i64 0, .int .i64 0, .int .i64 0, .int .i32 0] 40)).grown hg1 (by have := (hR.ext hb1).lt; simp; omega)
  have Hge := Lib.hid (show w.heap.size ≤ w2.heap.size from Nat.le_trans hb.size hb1.size)
  have Hne := Lib.hid (show w.heap.size ≠ w2.heap.size by omega)
  replace hb := below_grown ((hb.trans (hb1.mono hb.size)).alloc Hge.out (.cells #[.int .i64 0, .int .i64 0, .int .i64 0, .int .i64 0, .int .i32 0] 40)) hg1 (by have := Hge.out; simp; omega) Hge.out
  clear hb1 hg1 zR hge0 CF
  go_simp
  have hIc := hI.cell
  have hIf := hI.frozen
  have zI := hI.lt
  go_upto_region 40 with (first
    | (go_at_call 56; (with_reducible refine (rcut_7_11 x _ h0 h1).mono ?_); rintro e w1 ⟨rfl, rfl⟩)
    | (go_at_call 56; (with_reducible refine (rcut_15_19 x _ h0 h1).mono ?_); rintro e w1 ⟨rfl, rfl⟩)
    | (go_at_call 56; (with_reducible refine (rcut_20_24 x _ h0 h1).mono ?_); rintro e w1 ⟨rfl, rfl⟩)
    | (go_at_call 56; (with_reducible refine (rcut_31_31 x _ h0 h1).mono ?_); rintro e w1 ⟨rfl, rfl⟩)
    | (go_at_call 56; (with_reducible refine (rcut_20_31 x _ h0 h1).mono ?_); rintro e w1 ⟨rfl, rfl⟩)
    | (go_at_call 58; (with_reducible refine (rsigned_12 _ _ ?_ ?_).mono ?_); exact (cut_hi x 20 31 4096 (by decide)).1; exact (cut_hi x 20 31 4096 (by decide)).2; rintro e w1 ⟨rfl, rfl⟩))
  refine wp_gen fun wr hq => ?_
  have hI2 : Blk wr w2.heap.size 40 (readP op 2 x).cells := by rw [hq]; exact (((hI).set 1 _).set 2 _).set 4 _
  have hR2 : Blk wr w.heap.size 40 #[.int .i64 0, .int .i64 0, .int .i64 0, .int .i64 0, .int .i32 0] := by rw [hq]; exact (((hR).farAt Hne.out _).farAt Hne.out _).farAt Hne.out _
  have hb2 : Below w.heap.size w wr := by rw [hq]; exact below_set Hge.out (below_set Hge.out (below_set Hge.out (hb)))
  clear hq hIc hIf zI hI hR hb
  obtain ⟨i, hi⟩ : ∃ i, i = readP op 2 x := ⟨_, rfl⟩
  rw [← hi] at hI2
  have Hi := Lib.hid hi
  clear hi
  have hs2 := hb2.size
  have zR := hR2.lt
  go_wp2_with (first
    | (refine wpList_load_all rfl 40 _ rfl w2.heap.size rfl 40 _ _ hI2 Try.underlying40 rfl ins_info ?_)
    | (refine wpList_store_all rfl 40 _ _ rfl w.heap.size i.cells rfl rfl 40 _ hR2 ins_info rfl ins_one ?_; intro w5 hB5 hg5; have hBc := hB5.cell))
  exact bodyPost_ret (v := .tuple #[.agg i.cells, .bool true]) (by simp [results, Try.results27, go_sem, hBc]) rfl ⟨by rw [Hi.out], below_grown hb2 hg5 hs2 (Nat.le_refl _)⟩
set_option maxRecDepth 100000 in
set_option maxHeartbeats 1000000 in
theorem rdec_3 (x op : Int) (w : World) (h0 : 0 ≤ x) (h1 : x ≤ 4294967295) (ho0 : 0 ≤ op) (ho1 : op ≤ 48) (CF : Hid (∀ W, Calls Try.prog 55 #[.int .u32 x] W fun e w' => e = .returned (.tuple #[.int .i64 op, .int .u8 72]) ∧ Below W.heap.size W w')) :
    Calls Try.prog 27 #[.int .u32 x] w fun e w' => e = .returned (.tuple #[.agg (readP op 3 x).cells, .bool true]) ∧ Below w.heap.size w w' := by
  obtain ⟨c7_110, c7_111⟩ := cut_hi x 7 11 32 (by decide)
  obtain ⟨c15_190, c15_191⟩ := cut_hi x 15 19 32 (by decide)
  obtain ⟨c20_240, c20_241⟩ := cut_hi x 20 24 32 (by decide)
  obtain ⟨c31_310, c31_311⟩ := cut_hi x 31 31 2 (by decide)
  go_enter Try.func27, Try.ntmps27
  go_upto_region 1 with (fail)
  refine wp_gen fun wa hq => ?_
  have hR : Blk wa w.heap.size 40 #[.int .i64 0, .int .i64 0, .int .i64 0, .int .i64 0, .int .i32 0] := by rw [hq]; exact Blk.new w _ _
  have hb : Below w.heap.size w wa := by rw [hq]; exact (Below.refl _ _).alloc (Nat.le_refl _) _
  clear hq
  go_upto_region 7 with (first
    | (go_at_call 55; (with_reducible refine (CF.out _).mono ?_); rintro e w2 ⟨rfl, hb1⟩)
    | (refine wpList_build_to rfl 40 _ rfl [(0, .int .i64 op)] ?_ _ (built_ins op) ?_; kernel_rfl)
    | (refine wpList_store_all rfl 40 _ _ rfl w2.heap.size #[.int .i64 op, .int .i64 0, .int .i64 0, .int .i64 0, .int .i32 0] rfl rfl 40 _ (Blk.new w2 _ _) ins_info rfl ins_one ?_; intro wq hI hg1))
  have zR := hR.lt
  have hge0 := hb1.size
  replace hR := ((hR.ext hb1).alloc (.cells #[.int .i64 0, .int .i64 0, .int .i64 0, .int .i64 0, .int .i32 0] 40)).grown hg1 (by have := (hR.ext hb1).lt; simp; omega)
  have Hge := Lib.hid (show w.heap.size ≤ w2.heap.size from Nat.le_trans hb.size hb1.size)
  have Hne := Lib.hid (show w.heap.size ≠ w2.heap.size by omega)
  replace hb := below_grown ((hb.trans (hb1.mono hb.size)).alloc Hge.out (.cells #[.int .i64 0, .int .i64 0, .int .i64 0, .int .i64 0, .int .i32 0] 40)) hg1 (by have := Hge.out; simp; omega) Hge.out
  clear hb1 hg1 zR hge0 CF
  go_simp
  have hIc := hI.cell
  have hIf := hI.frozen
  have zI := hI.lt
  go_upto_region 40 with (first
    | (go_at_call 56; (with_reducible refine (rcut_7_11 x _ h0 h1).mono ?_); rintro e w1 ⟨rfl, rfl⟩)
    | (go_at_call 56; (with_reducible refine (rcut_15_19 x _ h0 h1).mono ?_); rintro e w1 ⟨rfl, rfl⟩)
    | (go_at_call 56; (with_reducible refine (rcut_20_24 x _ h0 h1).mono ?_); rintro e w1 ⟨rfl, rfl⟩)
    | (go_at_call 56; (with_reducible refine (rcut_31_31 x _ h0 h1).mono ?_); rintro e w1 ⟨rfl, rfl⟩))
  refine wp_gen fun wr hq => ?_
  have hI2 : Blk wr w2.heap.size 40 (readP op 3 x).cells := by rw [hq]; exact (((hI).set 1 _).set 2 _).set 4 _
  have hR2 : Blk wr w.heap.size 40 #[.int .i64 0, .int .i64 0, .int .i64 0, .int .i64 0, .int .i32 0] := by rw [hq]; exact (((hR).farAt Hne.out _).farAt Hne.out _).farAt Hne.out _
  have hb2 : Below w.heap.size w wr := by rw [hq]; exact below_set Hge.out (below_set Hge.out (below_set Hge.out (hb)))
  clear hq hIc hIf zI hI hR hb
  obtain ⟨i, hi⟩ : ∃ i, i = readP op 3 x := ⟨_, rfl⟩
  rw [← hi] at hI2
  have Hi := Lib.hid hi
  clear hi
  have hs2 := hb2.size
  have zR := hR2.lt
  go_wp2_with (first
    | (refine wpList_load_all rfl 40 _ rfl w2.heap.size rfl 40 _ _ hI2 Try.underlying40 rfl ins_info ?_)
    | (refine wpList_store_all rfl 40 _ _ rfl w.heap.size i.cells rfl rfl 40 _ hR2 ins_info rfl ins_one ?_; intro w5 hB5 hg5; have hBc := hB5.cell))
  exact bodyPost_ret (v := .tuple #[.agg i.cells, .bool true]) (by simp [results, Try.results27, go_sem, hBc]) rfl ⟨by rw [Hi.out], below_grown hb2 hg5 hs2 (Nat.le_refl _)⟩
set_option maxRecDepth 100000 in
set_option maxHeartbeats 1000000 in
theorem rdec_4 (x op : Int) (w : World) (h0 : 0 ≤ x) (h1 : x ≤ 4294967295) (ho0 : 0 ≤ op) (ho1 : op ≤ 48) (CF : Hid (∀ W, Calls Try.prog 55 #[.int .u32 x] W fun e w' => e = .returned (.tuple #[.int .i64 op, .int .u8 66]) ∧ Below W.heap.size W w')) :
    Calls Try.prog 27 #[.int .u32 x] w fun e w' => e = .returned (.tuple #[.agg (readP op 4 x).cells, .bool true]) ∧ Below w.heap.size w w' := by
  obtain ⟨c7_110, c7_111⟩ := cut_hi x 7 11 32 (by decide)
  obtain ⟨c15_190, c15_191⟩ := cut_hi x 15 19 32 (by decide)
  obtain ⟨c20_240, c20_241⟩ := cut_hi x 20 24 32 (by decide)
  obtain ⟨c31_310, c31_311⟩ := cut_hi x 31 31 2 (by decide)
  obtain ⟨c7_70, c7_71⟩ := cut_hi x 7 7 2 (by decide)
  obtain ⟨c25_300, c25_301⟩ := cut_hi x 25 30 64 (by decide)
  obtain ⟨c8_110, c8_111⟩ := cut_hi x 8 11 16 (by decide)
  go_enter Try.func27, Try.ntmps27
  go_upto_region 1 with (fail)
  refine wp_gen fun wa hq => ?_
  have hR : Blk wa w.heap.size 40 #[.int .i64 0, .int .i64 0, .int .i64 0, .int .i64 0, .int .i32 0] := by rw [hq]; exact Blk.new w _ _
  have hb : Below w.heap.size w wa := by rw [hq]; exact (Below.refl _ _).alloc (Nat.le_refl _) _
  clear hq
  go_upto_region 7 with (first
    | (go_at_call 55; (with_reducible refine (CF.out _).mono ?_); rintro e w2 ⟨rfl, hb1⟩)
    | (refine wpList_build_to rfl 40 _ rfl [(0, .int .i64 op)] ?_ _ (built_ins op) ?_; kernel_rfl)
    | (refine wpList_store_all rfl 40 _ _ rfl w2.heap.size #[.int .i64 op, .int .i64 0, .int .i64 0, .int .i64 0, .int .i32 0] rfl rfl 40 _ (Blk.new w2 _ _) ins_info rfl ins_one ?_; intro wq hI hg1))
  have zR := hR.lt
  have hge0 := hb1.size
  replace hR := ((hR.ext hb1).alloc (.cells #[.int .i64 0, .int .i64 0, .int .i64 0, .int .i64 0, .int .i32 0] 40)).grown hg1 (by have := (hR.ext hb1).lt; simp; omega)
  have Hge := Lib.hid (show w.heap.size ≤ w2.heap.size from Nat.le_trans hb.size hb1.size)
  have Hne := Lib.hid (show w.heap.size ≠ w2.heap.size by omega)
  replace hb := below_grown ((hb.trans (hb1.mono hb.size)).alloc Hge.out (.cells #[.int .i64 0, .int .i64 0, .int .i64 0, .int .i64 0, .int .i32 0] 40)) hg1 (by have := Hge.out; simp; omega) Hge.out
  clear hb1 hg1 zR hge0 CF
  go_simp
  have hIc := hI.cell
  have hIf := hI.frozen
  have zI := hI.lt
  go_upto_region 40 with (first
    | (go_at_call 56; (with_reducible refine (rcut_7_11 x _ h0 h1).mono ?_); rintro e w1 ⟨rfl, rfl⟩)
    | (go_at_call 56; (with_reducible refine (rcut_15_19 x _ h0 h1).mono ?_); rintro e w1 ⟨rfl, rfl⟩)
    | (go_at_call 56; (with_reducible refine (rcut_20_24 x _ h0 h1).mono ?_); rintro e w1 ⟨rfl, rfl⟩)
    | (go_at_call 56; (with_reducible refine (rcut_31_31 x _ h0 h1).mono ?_); rintro e w1 ⟨rfl, rfl⟩)
    | (go_at_call 56; (with_reducible refine (rcut_7_7 x _ h0 h1).mono ?_); rintro e w1 ⟨rfl, rfl⟩)
    | (go_at_call 56; (with_reducible refine (rcut_25_30 x _ h0 h1).mono ?_); rintro e w1 ⟨rfl, rfl⟩)
    | (go_at_call 56; (with_reducible refine (rcut_8_11 x _ h0 h1).mono ?_); rintro e w1 ⟨rfl, rfl⟩)
    | (go_at_call 58; (with_reducible refine (rsigned_13 _ _ ?_ ?_).mono ?_); omega; omega; rintro e w1 ⟨rfl, rfl⟩))
  refine wp_gen fun wr hq => ?_
  have hI2 : Blk wr w2.heap.size 40 (readP op 4 x).cells := by rw [hq]; exact (((hI).set 2 _).set 3 _).set 4 _
  have hR2 : Blk wr w.heap.size 40 #[.int .i64 0, .int .i64 0, .int .i64 0, .int .i64 0, .int .i32 0] := by rw [hq]; exact (((hR).farAt Hne.out _).farAt Hne.out _).farAt Hne.out _
  have hb2 : Below w.heap.size w wr := by rw [hq]; exact below_set Hge.out (below_set Hge.out (below_set Hge.out (hb)))
  clear hq hIc hIf zI hI hR hb
  obtain ⟨i, hi⟩ : ∃ i, i = readP op 4 x := ⟨_, rfl⟩
  rw [← hi] at hI2
  have Hi := Lib.hid hi
  clear hi
  have hs2 := hb2.size
  have zR := hR2.lt
  go_wp2_with (first
    | (refine wpList_load_all rfl 40 _ rfl w2.heap.size rfl 40 _ _ hI2 Try.underlying40 rfl ins_info ?_)
    | (refine wpList_store_all rfl 40 _ _ rfl w.heap.size i.cells rfl rfl 40 _ hR2 ins_info rfl ins_one ?_; intro w5 hB5 hg5; have hBc := hB5.cell))
  exact bodyPost_ret (v := .tuple #[.agg i.cells, .bool true]) (by simp [results, Try.results27, go_sem, hBc]) rfl ⟨by rw [Hi.out], below_grown hb2 hg5 hs2 (Nat.le_refl _)⟩
set_option maxRecDepth 100000 in
set_option maxHeartbeats 1000000 in
theorem rdec_5 (x op : Int) (w : World) (h0 : 0 ≤ x) (h1 : x ≤ 4294967295) (ho0 : 0 ≤ op) (ho1 : op ≤ 48) (CF : Hid (∀ W, Calls Try.prog 55 #[.int .u32 x] W fun e w' => e = .returned (.tuple #[.int .i64 op, .int .u8 83]) ∧ Below W.heap.size W w')) :
    Calls Try.prog 27 #[.int .u32 x] w fun e w' => e = .returned (.tuple #[.agg (readP op 5 x).cells, .bool true]) ∧ Below w.heap.size w w' := by
  obtain ⟨c7_110, c7_111⟩ := cut_hi x 7 11 32 (by decide)
  obtain ⟨c15_190, c15_191⟩ := cut_hi x 15 19 32 (by decide)
  obtain ⟨c20_240, c20_241⟩ := cut_hi x 20 24 32 (by decide)
  obtain ⟨c31_310, c31_311⟩ := cut_hi x 31 31 2 (by decide)
  obtain ⟨c25_310, c25_311⟩ := cut_hi x 25 31 128 (by decide)
  go_enter Try.func27, Try.ntmps27
  go_upto_region 1 with (fail)
  refine wp_gen fun wa hq => ?_
  have hR : Blk wa w.heap.size 40 #[.int .i64 0, .int .i64 0, .int .i64 0, .int .i64 0, .int .i32 0] := by rw [hq]; exact Blk.new w _ _
  have hb : Below w.heap.size w wa := by rw [hq]; exact (Below.refl _ _).alloc (Nat.le_refl _) _
  clear hq
  go_upto_region 7 with (first
    | (go_at_call 55; (with_reducible refine (CF.out _).mono ?_); rintro e w2 ⟨rfl, hb1⟩)
    | (refine wpList_build_to rfl 40 _ rfl [(0, .int .i64 op)] ?_ _ (built_ins op) ?_; kernel_rfl)
    | (refine wpList_store_all rfl 40 _ _ rfl w2.heap.size #[.int .i64 op, .int .i64 0, .int .i64 0, .int .i64 0, .int .i32 0] rfl rfl 40 _ (Blk.new w2 _ _) ins_info rfl ins_one ?_; intro wq hI hg1))
  have zR := hR.lt
  have hge0 := hb1.size
  replace hR := ((hR.ext hb1).alloc (.cells #[.int .i64 0, .int .i64 0, .int .i64 0, .int .i64 0, .int .i32 0] 40)).grown hg1 (by have := (hR.ext hb1).lt; simp; omega)
  have Hge := Lib.hid (show w.heap.size ≤ w2.heap.size from Nat.le_trans hb.size hb1.size)
  have Hne := Lib.hid (show w.heap.size ≠ w2.heap.size by omega)
  replace hb := below_grown ((hb.trans (hb1.mono hb.size)).alloc Hge.out (.cells #[.int .i64 0, .int .i64 0, .int .i64 0, .int .i64 0, .int .i32 0] 40)) hg1 (by have := Hge.out; simp; omega) Hge.out
  clear hb1 hg1 zR hge0 CF
  go_simp
  have hIc := hI.cell
  have hIf := hI.frozen
  have zI := hI.lt
  go_upto_region 40 with (first
    | (go_at_call 56; (with_reducible refine (rcut_7_11 x _ h0 h1).mono ?_); rintro e w1 ⟨rfl, rfl⟩)
    | (go_at_call 56; (with_reducible refine (rcut_15_19 x _ h0 h1).mono ?_); rintro e w1 ⟨rfl, rfl⟩)
    | (go_at_call 56; (with_reducible refine (rcut_20_24 x _ h0 h1).mono ?_); rintro e w1 ⟨rfl, rfl⟩)
    | (go_at_call 56; (with_reducible refine (rcut_31_31 x _ h0 h1).mono ?_); rintro e w1 ⟨rfl, rfl⟩)
    | (go_at_call 56; (with_reducible refine (rcut_25_31 x _ h0 h1).mono ?_); rintro e w1 ⟨rfl, rfl⟩)
    | (go_at_call 58; (with_reducible refine (rsigned_12 _ _ ?_ ?_).mono ?_); omega; omega; rintro e w1 ⟨rfl, rfl⟩))
  refine wp_gen fun wr hq => ?_
  have hI2 : Blk wr w2.heap.size 40 (readP op 5 x).cells := by rw [hq]; exact (((hI).set 2 _).set 3 _).set 4 _
  have hR2 : Blk wr w.heap.size 40 #[.int .i64 0, .int .i64 0, .int .i64 0, .int .i64 0, .int .i32 0] := by rw [hq]; exact (((hR).farAt Hne.out _).farAt Hne.out _).farAt Hne.out _
  have hb2 : Below w.heap.size w wr := by rw [hq]; exact below_set Hge.out (below_set Hge.out (below_set Hge.out (hb)))
  clear hq hIc hIf zI hI hR hb
  obtain ⟨i, hi⟩ : ∃ i, i = readP op 5 x := ⟨_, rfl⟩
  rw [← hi] at hI2
  have Hi := Lib.hid hi
  clear hi
  have hs2 := hb2.size
  have zR := hR2.lt
  go_wp2_with (first
    | (refine wpList_load_all rfl 40 _ rfl w2.heap.size rfl 40 _ _ hI2 Try.underlying40 rfl ins_info ?_)
    | (refine wpList_store_all rfl 40 _ _ rfl w.heap.size i.cells rfl rfl 40 _ hR2 ins_info rfl ins_one ?_; intro w5 hB5 hg5; have hBc := hB5.cell))
  exact bodyPost_ret (v := .tuple #[.agg i.cells, .bool true]) (by simp [results, Try.results27, go_sem, hBc]) rfl ⟨by rw [Hi.out], below_grown hb2 hg5 hs2 (Nat.le_refl _)⟩
set_option maxRecDepth 100000 in
set_option maxHeartbeats 1000000 in
theorem rdec_6 (x op : Int) (w : World) (h0 : 0 ≤ x) (h1 : x ≤ 4294967295) (ho0 : 0 ≤ op) (ho1 : op ≤ 48) (CF : Hid (∀ W, Calls Try.prog 55 #[.int .u32 x] W fun e w' => e = .returned (.tuple #[.int .i64 op, .int .u8 82]) ∧ Below W.heap.size W w')) :
    Calls Try.prog 27 #[.int .u32 x] w fun e w' => e = .returned (.tuple #[.agg (readP op 6 x).cells, .bool true]) ∧ Below w.heap.size w w' := by
  obtain ⟨c7_110, c7_111⟩ := cut_hi x 7 11 32 (by decide)
  obtain ⟨c15_190, c15_191⟩ := cut_hi x 15 19 32 (by decide)
  obtain ⟨c20_240, c20_241⟩ := cut_hi x 20 24 32 (by decide)
  obtain ⟨c31_310, c31_311⟩ := cut_hi x 31 31 2 (by decide)
  go_enter Try.func27, Try.ntmps27
  go_upto_region 1 with (fail)
  refine wp_gen fun wa hq => ?_
  have hR : Blk wa w.heap.size 40 #[.int .i64 0, .int .i64 0, .int .i64 0, .int .i64 0, .int .i32 0] := by rw [hq]; exact Blk.new w _ _
  have hb : Below w.heap.size w wa := by rw [hq]; exact (Below.refl _ _).alloc (Nat.le_refl _) _
  clear hq
  go_upto_region 7 with (first
    | (go_at_call 55; (with_reducible refine (CF.out _).mono ?_); rintro e w2 ⟨rfl, hb1⟩)
    | (refine wpList_build_to rfl 40 _ rfl [(0, .int .i64 op)] ?_ _ (built_ins op) ?_; kernel_rfl)
    | (refine wpList_store_all rfl 40 _ _ rfl w2.heap.size #[.int .i64 op, .int .i64 0, .int .i64 0, .int .i64 0, .int .i32 0] rfl rfl 40 _ (Blk.new w2 _ _) ins_info rfl ins_one ?_; intro wq hI hg1))
  have zR := hR.lt
  have hge0 := hb1.size
  replace hR := ((hR.ext hb1).alloc (.cells #[.int .i64 0, .int .i64 0, .int .i64 0, .int .i64 0, .int .i32 0] 40)).grown hg1 (by have := (hR.ext hb1).lt; simp; omega)
  have Hge := Lib.hid (show w.heap.size ≤ w2.heap.size from Nat.le_trans hb.size hb1.size)
  have Hne := Lib.hid (show w.heap.size ≠ w2.heap.size by omega)
  replace hb := below_grown ((hb.trans (hb1.mono hb.size)).alloc Hge.out (.cells #[.int .i64 0, .int .i64 0, .int .i64 0, .int .i64 0, .int .i32 0] 40)) hg1 (by have := Hge.out; simp; omega) Hge.out
  clear hb1 hg1 zR hge0 CF
  go_simp
  have hIc := hI.cell
  have hIf := hI.frozen
  have zI := hI.lt
  go_upto_region 40 with (first
    | (go_at_call 56; (with_reducible refine (rcut_7_11 x _ h0 h1).mono ?_); rintro e w1 ⟨rfl, rfl⟩)
    | (go_at_call 56; (with_reducible refine (rcut_15_19 x _ h0 h1).mono ?_); rintro e w1 ⟨rfl, rfl⟩)
    | (go_at_call 56; (with_reducible refine (rcut_20_24 x _ h0 h1).mono ?_); rintro e w1 ⟨rfl, rfl⟩)
    | (go_at_call 56; (with_reducible refine (rcut_31_31 x _ h0 h1).mono ?_); rintro e w1 ⟨rfl, rfl⟩))
  refine wp_gen fun wr hq => ?_
  have hI2 : Blk wr w2.heap.size 40 (readP op 6 x).cells := by rw [hq]; exact (((hI).set 1 _).set 2 _).set 3 _
  have hR2 : Blk wr w.heap.size 40 #[.int .i64 0, .int .i64 0, .int .i64 0, .int .i64 0, .int .i32 0] := by rw [hq]; exact (((hR).farAt Hne.out _).farAt Hne.out _).farAt Hne.out _
  have hb2 : Below w.heap.size w wr := by rw [hq]; exact below_set Hge.out (below_set Hge.out (below_set Hge.out (hb)))
  clear hq hIc hIf zI hI hR hb
  obtain ⟨i, hi⟩ : ∃ i, i = readP op 6 x := ⟨_, rfl⟩
  rw [← hi] at hI2
  have Hi := Lib.hid hi
  clear hi
  have hs2 := hb2.size
  have zR := hR2.lt
  go_wp2_with (first
    | (refine wpList_load_all rfl 40 _ rfl w2.heap.size rfl 40 _ _ hI2 Try.underlying40 rfl ins_info ?_)
    | (refine wpList_store_all rfl 40 _ _ rfl w.heap.size i.cells rfl rfl 40 _ hR2 ins_info rfl ins_one ?_; intro w5 hB5 hg5; have hBc := hB5.cell))
  exact bodyPost_ret (v := .tuple #[.agg i.cells, .bool true]) (by simp [results, Try.results27, go_sem, hBc]) rfl ⟨by rw [Hi.out], below_grown hb2 hg5 hs2 (Nat.le_refl _)⟩
set_option maxRecDepth 100000 in
set_option maxHeartbeats 1000000 in
theorem rdec_7 (x op : Int) (w : World) (h0 : 0 ≤ x) (h1 : x ≤ 4294967295) (ho0 : 0 ≤ op) (ho1 : op ≤ 48) (CF : Hid (∀ W, Calls Try.prog 55 #[.int .u32 x] W fun e w' => e = .returned (.tuple #[.int .i64 op, .int .u8 69]) ∧ Below W.heap.size W w')) :
    Calls Try.prog 27 #[.int .u32 x] w fun e w' => e = .returned (.tuple #[.agg (readP op 7 x).cells, .bool true]) ∧ Below w.heap.size w w' := by
  go_enter Try.func27, Try.ntmps27
  go_upto_region 1 with (fail)
  refine wp_gen fun wa hq => ?_
  have hR : Blk wa w.heap.size 40 #[.int .i64 0, .int .i64 0, .int .i64 0, .int .i64 0, .int .i32 0] := by rw [hq]; exact Blk.new w _ _
  have hb : Below w.heap.size w wa := by rw [hq]; exact (Below.refl _ _).alloc (Nat.le_refl _) _
  clear hq
  go_upto_region 6 with (first
    | (go_at_call 55; (with_reducible refine (CF.out _).mono ?_); rintro e w2 ⟨rfl, hb1⟩)
    | (refine wpList_build_to rfl 40 _ rfl [(0, .int .i64 op)] ?_ _ (built_ins op) ?_; kernel_rfl)
    | (refine wpList_store_all rfl 40 _ _ rfl w2.heap.size #[.int .i64 op, .int .i64 0, .int .i64 0, .int .i64 0, .int .i32 0] rfl rfl 40 _ (Blk.new w2 _ _) ins_info rfl ins_one ?_; intro wq hI hg1))
  have zR := hR.lt
  have hge0 := hb1.size
  replace hR := ((hR.ext hb1).alloc (.cells #[.int .i64 0, .int .i64 0, .int .i64 0, .int .i64 0, .int .i32 0] 40)).grown hg1 (by have := (hR.ext hb1).lt; simp; omega)
  have Hge := Lib.hid (show w.heap.size ≤ w2.heap.size from Nat.le_trans hb.size hb1.size)
  have Hne := Lib.hid (show w.heap.size ≠ w2.heap.size by omega)
  replace hb := below_grown ((hb.trans (hb1.mono hb.size)).alloc Hge.out (.cells #[.int .i64 0, .int .i64 0, .int .i64 0, .int .i64 0, .int .i32 0] 40)) hg1 (by have := Hge.out; simp; omega) Hge.out
  clear hb1 hg1 zR hge0 CF
  go_simp
  have hIc := hI.cell
  have hIf := hI.frozen
  have zI := hI.lt
  refine wp_gen fun wr hq => ?_
  have hI2 : Blk wr w2.heap.size 40 (readP op 7 x).cells := by rw [hq]; exact hI
  have hR2 : Blk wr w.heap.size 40 #[.int .i64 0, .int .i64 0, .int .i64 0, .int .i64 0, .int .i32 0] := by rw [hq]; exact hR
  have hb2 : Below w.heap.size w wr := by rw [hq]; exact hb
  clear hq hIc hIf zI hI hR hb
  obtain ⟨i, hi⟩ : ∃ i, i = readP op 7 x := ⟨_, rfl⟩
  rw [← hi] at hI2
  have Hi := Lib.hid hi
  clear hi
  have hs2 := hb2.size
  have zR := hR2.lt
  go_wp2_with (first
    | (refine wpList_load_all rfl 40 _ rfl w2.heap.size rfl 40 _ _ hI2 Try.underlying40 rfl ins_info ?_)
    | (refine wpList_store_all rfl 40 _ _ rfl w.heap.size i.cells rfl rfl 40 _ hR2 ins_info rfl ins_one ?_; intro w5 hB5 hg5; have hBc := hB5.cell))
  exact bodyPost_ret (v := .tuple #[.agg i.cells, .bool true]) (by simp [results, Try.results27, go_sem, hBc]) rfl ⟨by rw [Hi.out], below_grown hb2 hg5 hs2 (Nat.le_refl _)⟩
set_option maxRecDepth 100000 in
set_option maxHeartbeats 1000000 in
theorem rdec_none (x op f : Int) (w : World) (h0 : 0 ≤ x) (h1 : x ≤ 4294967295) (ho : op < 0) (CF : Hid (∀ W, Calls Try.prog 55 #[.int .u32 x] W fun e w' => e = .returned (.tuple #[.int .i64 op, .int .u8 f]) ∧ Below W.heap.size W w')) :
    Calls Try.prog 27 #[.int .u32 x] w fun e w' => e = .returned (.tuple #[.agg insZ.cells, .bool false]) ∧ Below w.heap.size w w' := by
  go_enter Try.func27, Try.ntmps27
  go_upto_region 1 with (fail)
  refine wp_gen fun wa hq => ?_
  have hR : Blk wa w.heap.size 40 #[.int .i64 0, .int .i64 0, .int .i64 0, .int .i64 0, .int .i32 0] := by rw [hq]; exact Blk.new w _ _
  have hb : Below w.heap.size w wa := by rw [hq]; exact (Below.refl _ _).alloc (Nat.le_refl _) _
  clear hq
  go_wp2_with (first
    | (go_at_call 55; (with_reducible refine (CF.out _).mono ?_); rintro e w2 ⟨rfl, hb1⟩; have hR2 := hR.ext hb1)
    | (refine wpList_build_to rfl 40 _ rfl [] ?_ _ built_ins0 ?_; kernel_rfl)
    | (refine wpList_store_all rfl 40 _ _ rfl w.heap.size insZ.cells rfl rfl 40 _ hR2 ins_info rfl ins_one ?_; intro w5 hB5 hg5; have hBc := hB5.cell))
  exact bodyPost_ret (v := .tuple #[.agg insZ.cells, .bool false]) (by simp [results, Try.results27, go_sem, hBc]) rfl ⟨rfl, below_grown (hb.trans (hb1.mono hb.size)) hg5 (Nat.le_trans hb.size hb1.size) (Nat.le_refl _)⟩
theorem formR_op (low mid up w : Int) (m0 : 0 ≤ mid) (m1 : mid < 8) (u0 : 0 ≤ up) (hl : low = w % 128) : (formR low mid up w).1 ≤ 48 := by
  obtain ⟨h1, _⟩ := find_form low mid up w m0 m1 u0 hl
  have hk := find_ok low mid up w kindsL kindsL_ok
  rw [← h1]
  generalize findK low mid up w kindsL = p at hk
  unfold okOp at hk
  simp only [Bool.or_eq_true, Bool.and_eq_true, decide_eq_true_eq] at hk
  omega
theorem rdec_any (x : Int) (w : World) (h0 : 0 ≤ x) (h1 : x ≤ 4294967295) :
    Calls Try.prog 27 #[.int .u32 x] w fun e w' => e = .returned (.tuple #[.agg ((decP x).getD insZ).cells, .bool (decP x).isSome]) ∧ Below w.heap.size w w' := by
  have CF := fun W => form_any x W h0 h1
  rw [decP_eq]
  unfold decR
  have hb := formR_bd (cutI x 0 6) (cutI x 12 14) (cutI x 25 31) x
  have h48 := formR_op (cutI x 0 6) (cutI x 12 14) (cutI x 25 31) x (cut_lt _ _ _).1 (by simpa using (cut_lt x 12 14).2) (cut_lt _ _ _).1 (by unfold cutI; simp)
  generalize formR (cutI x 0 6) (cutI x 12 14) (cutI x 25 31) x = p at *
  obtain ⟨op, f⟩ := p
  simp only at CF hb h48 ⊢
  by_cases hop : op < 0
  · rw [if_pos hop]
    exact rdec_none x op _ w h0 h1 hop (Lib.hid CF)
  · rw [if_neg hop]
    obtain rfl | rfl | rfl | rfl | rfl | rfl | rfl | rfl : f = 0 ∨ f = 1 ∨ f = 2 ∨ f = 3 ∨ f = 4 ∨ f = 5 ∨ f = 6 ∨ f = 7 := by omega
    · exact rdec_0 x op w h0 h1 (by omega) h48 (Lib.hid CF)
    · exact rdec_1 x op w h0 h1 (by omega) h48 (Lib.hid CF)
    · exact rdec_2 x op w h0 h1 (by omega) h48 (Lib.hid CF)
    · exact rdec_3 x op w h0 h1 (by omega) h48 (Lib.hid CF)
    · exact rdec_4 x op w h0 h1 (by omega) h48 (Lib.hid CF)
    · exact rdec_5 x op w h0 h1 (by omega) h48 (Lib.hid CF)
    · exact rdec_6 x op w h0 h1 (by omega) h48 (Lib.hid CF)
    · exact rdec_7 x op w h0 h1 (by omega) h48 (Lib.hid CF)
end Go.Proofs.Ytapgojgcmlnbgab
