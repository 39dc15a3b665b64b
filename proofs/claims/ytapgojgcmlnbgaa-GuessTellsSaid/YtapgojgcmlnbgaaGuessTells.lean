/- GuessTells, walked. -/
import Derived.Test.YtapgojgcmlnbgaaRef6
namespace Go.Proofs.Ytapgojgcmlnbgaa
open Go.RowKit

theorem tab_key : Try.prog.keyTypeAt 20 38 = true := by kernel_rfl
theorem tab_fits : fitsB Try.prog 20 38 tabKinds = true := by kernel_rfl
theorem tab_cells : Try.prog.cellsOf 38 = 64 := by kernel_rfl
theorem tab_self {cs : Array Value} (h : TabOk cs) (w : World) : (binOp .eql 38 (.agg cs) (.agg cs)).run Try.prog w = .ok (.bool true) w :=
  eql_self w tab_key (by omega) (formed_struct Try.underlying38 tab_cells h.size) tab_fits h.fits
theorem tab_guard : Try.prog.eqGuardType Try.prog.depth 38 = false := by kernel_rfl
set_option maxRecDepth 100000 in
set_option maxHeartbeats 1000000 in
theorem guessTells_walk (cs : Array Value) (pc n : Int) (taken : Bool) (w : World) (h0 : 0 ≤ pc) (h1 : pc ≤ 4294967295) (n0 : 0 ≤ n) (n1 : n ≤ 4294967295) (hok : TabOk cs) :
    Calls Try.prog 5 #[.agg cs, .int .u32 pc, .bool taken, .int .u32 n] w fun e w' => e = .returned (.bool true) ∧ Below w.heap.size w w' := by
  obtain ⟨c, cw, ca⟩ := hok.cnt _ (cntK_lt pc)
  obtain ⟨v, vw, va⟩ := hok.vl _ (vlK_lt pc)
  have Hs := Lib.hid hok.size
  have hD : TabOk (learnBranchP cs c pc taken n) := hok.setCnt (cntK_lt pc) (learnC_wf cw taken n0 n1)
  have hE : TabOk (learnValueP cs v pc n) := hok.setVl (vlK_lt pc) (learnV_wf vw h0 h1 n0 n1)
  have C1 := fun W => branch_any cs c pc W h0 h1 hok.size ca
  have C2 := fun W => rbranch_any cs c pc W h0 h1 hok.size ca
  have C3 := fun W => gvalue_any cs v pc W h0 h1 hok.size vw va
  have C4 := fun W => rvalue_any cs v pc W h0 h1 hok.size vw va
  have C5 := fun W => learnBranch_any cs c pc n taken W h0 h1 n0 n1 hok cw ca
  have C6 := fun W => learnValue_any cs v pc n W h0 h1 n0 n1 hok vw va
  have C7 := fun W => rlearnBranch_any cs c pc n taken W h0 h1 n0 n1 hok cw ca
  have C8 := fun W => rlearnValue_any cs v pc n W h0 h1 n0 n1 hok vw va
  generalize learnBranchP cs c pc taken n = D at hD C5 C7
  generalize learnValueP cs v pc n = E at hE C6 C8
  generalize valueP v pc = X at C3 C4
  obtain ⟨X1, X2⟩ := X
  generalize c.tg = tg at C1 C2
  generalize decide (2 ≤ c.lv) = b at C1 C2
  have HD := Lib.hid hD.size
  have HE := Lib.hid hE.size
  have HD1 := Lib.hid hD.one
  have HE1 := Lib.hid hE.one
  have tD := Lib.hid (fun W => tab_self hD W)
  have tE := Lib.hid (fun W => tab_self hE W)
  have C1 := Lib.hid C1
  have C2 := Lib.hid C2
  have C3 := Lib.hid C3
  have C4 := Lib.hid C4
  have C5 := Lib.hid C5
  have C6 := Lib.hid C6
  have C7 := Lib.hid C7
  have C8 := Lib.hid C8
  clear hok hD hE cw ca vw va c v
  have e1 : (b == b) = true := by simp
  have e2 : (tg == tg) = true := by simp
  have e3 : (X1 == X1) = true := by simp
  have e4 : (X2 == X2) = true := by simp
  have hbq := Below.refl w.heap.size w
  go_enter Try.func5, Try.ntmps5
  go_upto_region 1 with (fail)
  refine wp_gen fun wa hq => ?_
  have hB : Blk wa w.heap.size 38 cs := by rw [hq]; exact Blk.new w _ _
  have hb : Below w.heap.size w wa := by rw [hq]; exact (Below.refl _ _).alloc (Nat.le_refl _) _
  clear hq
  go_upto_region 2 with (first
    | (refine load_tab rfl _ rfl w.heap.size rfl cs hB Hs.out ?_)
    | (go_at_call 17; (with_reducible refine (C1.out _).mono ?_); rintro e w1 ⟨rfl, hb1⟩))
  replace hB := hB.ext hb1
  replace hb := hb.trans (hb1.mono hb.size)
  clear hb1
  go_upto_region 3 with (first
    | (refine load_tab rfl _ rfl w.heap.size rfl cs hB Hs.out ?_)
    | (go_at_call 18; (with_reducible refine (C2.out _).mono ?_); rintro e w2 ⟨rfl, hb1⟩))
  replace hB := hB.ext hb1
  replace hb := hb.trans (hb1.mono hb.size)
  clear hb1
  go_upto_region 4 with (first
    | (refine load_tab rfl _ rfl w.heap.size rfl cs hB Hs.out ?_)
    | (go_at_call 19; (with_reducible refine (C3.out _).mono ?_); rintro e w3 ⟨rfl, hb1⟩))
  replace hB := hB.ext hb1
  replace hb := hb.trans (hb1.mono hb.size)
  clear hb1
  go_upto_region 5 with (first
    | (refine load_tab rfl _ rfl w.heap.size rfl cs hB Hs.out ?_)
    | (go_at_call 20; (with_reducible refine (C4.out _).mono ?_); rintro e w4 ⟨rfl, hb1⟩))
  replace hB := hB.ext hb1
  replace hb := hb.trans (hb1.mono hb.size)
  clear hb1
  go_upto_region 6 with (first
    | (refine load_tab rfl _ rfl w.heap.size rfl cs hB Hs.out ?_)
    | (go_at_call 21; (with_reducible refine (C5.out _).mono ?_); rintro e w5 ⟨rfl, hb1⟩)
    | (refine store_tab rfl _ _ rfl w5.heap.size D rfl rfl _ (Blk.new w5 _ _) HD.out rfl HD1.out ?_; intro w6 hD hg1))
  replace hB := ((hB.ext hb1).alloc (.cells _ 38)).grown hg1 (by have := (hB.ext hb1).lt; simp; omega)
  have hq := hb1
  replace hb := below_grown ((hb.trans (hb1.mono hb.size)).alloc (Nat.le_trans hb.size hb1.size) (.cells _ 38)) hg1 (by simp; have := hb.size; have := hb1.size; omega) (Nat.le_trans hb.size hb1.size)
  clear hq
  have hDb := Lib.hid hg1
  go_upto_region 7 with (first
    | (refine load_tab rfl _ rfl w.heap.size rfl cs hB Hs.out ?_)
    | (go_at_call 22; (with_reducible refine (C6.out _).mono ?_); rintro e w7 ⟨rfl, hb1⟩)
    | (refine store_tab rfl _ _ rfl w7.heap.size E rfl rfl _ (Blk.new w7 _ _) HE.out rfl HE1.out ?_; intro w8 hE hg1))
  have zD := hD.lt
  have zC := hB.lt
  have z7 := hb1.size
  have z8 := hg1.size
  simp only [World.size_alloc] at z8
  replace hB := ((hB.ext hb1).alloc (.cells _ 38)).grown hg1 (by simp; omega)
  replace hD := ((hD.ext hb1).alloc (.cells _ 38)).grown hg1 (by simp; omega)
  replace hb := below_grown ((hb.trans (hb1.mono hb.size)).alloc (Nat.le_trans hb.size hb1.size) (.cells _ 38)) hg1 (by simp; have := hb.size; omega) (Nat.le_trans hb.size hb1.size)
  clear hb1 hg1
  go_simp

  refine wp_region_below (by kernel_rfl) (by kernel_rfl) ?_
  repeat' (first
    | refine wpMix_plain rfl ?_
    | (refine' wpMixW_quiet _ (fun wq hwq K hK => ?_) ?_ ?_
       rotate_left 1
       · (skip
          first
          | ((first | (refine wp_load_tab _ rfl w.heap.size rfl cs (hB.ext hwq) Hs.out ?_; exact hK _ hwq) | (refine wp_load_tab _ rfl w5.heap.size rfl D (hD.ext hwq) HD.out ?_; exact hK _ hwq) | (refine wp_load_tab _ rfl w7.heap.size rfl E (hE.ext hwq) HE.out ?_; exact hK _ hwq) | (refine wp_eql_self 38 _ _ _ rfl D rfl rfl tab_guard (tD.out _) ?_; exact hK _ hwq) | (refine wp_eql_self 38 _ _ _ rfl E rfl rfl tab_guard (tE.out _) ?_; exact hK _ hwq)))
          | (go_wp2_with ((first | (go_at_call 23; (with_reducible refine (C7.out _).mono ?_); rintro e w9 ⟨rfl, hb9⟩; exact hK _ (hwq.trans (hb9.mono hwq.size))) | (go_at_call 24; (with_reducible refine (C8.out _).mono ?_); rintro e w9 ⟨rfl, hb9⟩; exact hK _ (hwq.trans (hb9.mono hwq.size)))))
             all_goals exact hK _ hwq))
       · rfl)
    | (refine wpMix_guardT rfl rfl rfl ?_ ?_ <;> intro hc <;> first | (cases hc; done) | ((try cases hc); simp only [Act.put, List.setIfInBounds_toArray, List.set_cons_succ, List.set_cons_zero]))
    | (refine wpMix_guardF rfl rfl rfl ?_ ?_ <;> intro hc <;> first | (cases hc; done) | ((try cases hc); simp only [Act.put, List.setIfInBounds_toArray, List.set_cons_succ, List.set_cons_zero]))
    | refine wpMix_guardU rfl rfl rfl ?_)
  all_goals
    refine wpMix_nil ?_
    intro w9 hw9
    go_wp2
    go_ret
    exact ⟨rfl, hb.trans (hw9.mono hb.size)⟩
end Go.Proofs.Ytapgojgcmlnbgaa
