/- The walks of the document's answer for guess. -/
import Derived.Test.YtapgojgcmlnbgaaGuess
namespace Go.Proofs.Ytapgojgcmlnbgaa
open Go.RowKit

theorem place_cnt (pc : Int) (w : World) (h0 : 0 ≤ pc) (h1 : pc ≤ 4294967295) : Calls Try.prog 48 #[.int .u32 pc, .int .i64 16] w fun e w' => e = .returned (.int .i64 (cntK pc)) ∧ w = w' := by
  have Hx := Lib.hid (cntK_eq pc)
  go_enter Try.func48, Try.ntmps48
  go_wp2
  go_ret
  exact ⟨ret_int Hx.out.symm, rfl⟩
theorem place_vl (pc : Int) (w : World) (h0 : 0 ≤ pc) (h1 : pc ≤ 4294967295) : Calls Try.prog 48 #[.int .u32 pc, .int .i64 8] w fun e w' => e = .returned (.int .i64 (vlK pc)) ∧ w = w' := by
  have Hx := Lib.hid (vlK_eq pc)
  go_enter Try.func48, Try.ntmps48
  go_wp2
  go_ret
  exact ⟨ret_int Hx.out.symm, rfl⟩
theorem bound_any (n : Int) (w : World) : Calls Try.prog 49 #[.int .i64 n] w fun e w' => e = .returned (.int .i64 (withinP n)) ∧ w = w' := by
  generalize hx : withinP n = x
  have Hx := Lib.hid hx
  clear hx
  go_enter Try.func49, Try.ntmps49
  go_wp2
  all_goals
    go_ret
    refine ⟨ret_int ?_, rfl⟩
    rw [← Hx.out]
    unfold withinP
    (repeat' split) <;> omega
theorem gsum_any (a b : Int) (w : World) (a0 : 0 ≤ a) (a1 : a ≤ 4294967295) (b0 : 0 ≤ b) (b1 : b ≤ 4294967295) : Calls Try.prog 51 #[.int .u32 a, .int .u32 b] w fun e w' => e = .returned (.int .u32 (sumW a b)) ∧ w = w' := by
  have Hx := Lib.hid (show sumW a b = (a + b) % 4294967296 from rfl)
  go_enter Try.func51, Try.ntmps51
  go_wp2
  go_ret
  exact ⟨ret_int Hx.out.symm, rfl⟩
set_option maxRecDepth 100000 in
theorem rbranch_any (cs : Array Value) (c : Cnt) (pc : Int) (w : World) (h0 : 0 ≤ pc) (h1 : pc ≤ 4294967295) (hs : cs.size = 64) (hc : CntAt cs (cntK pc) c) :
    Calls Try.prog 18 #[.agg cs, .int .u32 pc] w fun e w' => e = .returned (.tuple #[.bool (decide (2 ≤ c.lv)), .int .u32 c.tg]) ∧ Below w.heap.size w w' := by
  obtain ⟨c0, c1⟩ := hc
  have hk := cntK_lt pc
  obtain ⟨lv, tg⟩ := c
  dsimp only at c0 c1
  generalize hkk : cntK pc = k at c0 c1 hk
  have Hk := Lib.hid hkk
  have Hs := Lib.hid hs
  have hX : decide (2 ≤ lv) = decide (2 ≤ withinP lv) := by unfold withinP; (repeat' split) <;> simp <;> omega
  have HX := Lib.hid hX
  clear hkk hs hX
  go_enter Try.func18, Try.ntmps18
  go_wp2_with (go_at_call 48; (with_reducible refine (place_cnt pc _ h0 h1).mono ?_); rintro e w1 ⟨rfl, rfl⟩; rw [Hk.out])
  have z1 : w.heap.size + 1 < ((w.alloc (.cells cs 38)).alloc (.cells #[.int .i64 lv, .int .u32 tg] 32)).heap.size := by simp
  refine wp_region_below (by kernel_rfl) (by kernel_rfl) ?_
  repeat' (first
    | refine wpMix_plain rfl ?_
    | (refine' wpMixW_quiet _ (fun wq hwq K hK => ?_) ?_ ?_
       rotate_left 1
       · (obtain ⟨hcq, hfq⟩ := bcell hwq
          go_wp2_with ((go_at_call 49; (with_reducible refine (bound_any _ _).mono ?_); rintro e w1 ⟨rfl, rfl⟩; exact hK _ hwq))
          all_goals exact hK _ hwq)
       · rfl)
    | (refine wpMix_guardT rfl rfl rfl ?_ ?_ <;> intro hc <;> first | (cases hc; done) | ((try cases hc); simp only [Act.put, List.setIfInBounds_toArray, List.set_cons_succ, List.set_cons_zero]))
    | (refine wpMix_guardF rfl rfl rfl ?_ ?_ <;> intro hc <;> first | (cases hc; done) | ((try cases hc); simp only [Act.put, List.setIfInBounds_toArray, List.set_cons_succ, List.set_cons_zero]))
    | refine wpMix_guardU rfl rfl rfl ?_)
  all_goals
    refine wpMix_nil ?_
    intro w4 hw4
    go_wp2
    go_ret2
    refine ⟨?_, (((Below.refl _ _).alloc (Nat.le_refl _) _).alloc (by simp) _).trans (hw4.mono (by simp; omega))⟩
    rw [HX.out]
    rfl
set_option maxRecDepth 100000 in
theorem rvalue_any (cs : Array Value) (v : Vl) (pc : Int) (w : World) (h0 : 0 ≤ pc) (h1 : pc ≤ 4294967295) (hs : cs.size = 64) (hv : v.Wf) (hc : VlAt cs (vlK pc) v) :
    Calls Try.prog 20 #[.agg cs, .int .u32 pc] w fun e w' => e = .returned (.tuple #[.int .u32 (valueP v pc).1, .bool (valueP v pc).2]) ∧ Below w.heap.size w w' := by
  obtain ⟨c0, c1, c2, c3⟩ := hc
  have hk := vlK_lt pc
  obtain ⟨vpc, last, stride, sure⟩ := v
  obtain ⟨p0, p1, l0, l1, s0, s1, u0, u1⟩ := hv
  dsimp only at c0 c1 c2 c3 p0 p1 l0 l1 s0 s1 u0 u1
  generalize hkk : vlK pc = k at c0 c1 c2 c3 hk
  have hX : valueP ⟨vpc, last, stride, sure⟩ pc = if (vpc == pc && decide (2 ≤ withinP sure)) = true then (sumW last stride, true) else (0, false) := by
    have e : decide (2 ≤ withinP sure) = decide (2 ≤ sure) := by unfold withinP; (repeat' split) <;> simp <;> omega
    rw [e]
    unfold valueP
    simp
  generalize valueP ⟨vpc, last, stride, sure⟩ pc = X at hX
  have HX := Lib.hid hX
  have Hk := Lib.hid hkk
  have Hs := Lib.hid hs
  clear hkk hs hX
  go_enter Try.func20, Try.ntmps20
  go_wp2_with (first
    | (go_at_call 48; (with_reducible refine (place_vl pc _ h0 h1).mono ?_); rintro e w1 ⟨rfl, rfl⟩; rw [Hk.out])
    | (go_at_call 49; (with_reducible refine (bound_any _ _).mono ?_); rintro e w1 ⟨rfl, rfl⟩)
    | (go_at_call 51; (with_reducible refine (gsum_any last stride _ l0 l1 s0 s1).mono ?_); rintro e w1 ⟨rfl, rfl⟩))
  all_goals
    go_ret2
    refine ⟨?_, ((Below.refl _ _).alloc (Nat.le_refl _) _).alloc (by simp) _⟩
    rw [HX.out]
    first | (rw [if_pos (by simp [*])]; rfl) | (rw [if_neg (by simp [*])]; rfl)
set_option maxRecDepth 100000 in
set_option maxHeartbeats 1000000 in
theorem rlearnBranch_any (cs : Array Value) (c : Cnt) (pc target : Int) (taken : Bool) (w : World) (h0 : 0 ≤ pc) (h1 : pc ≤ 4294967295) (t0 : 0 ≤ target) (t1 : target ≤ 4294967295) (hok : TabOk cs) (hw : c.Wf) (hc : CntAt cs (cntK pc) c) :
    Calls Try.prog 23 #[.agg cs, .int .u32 pc, .bool taken, .int .u32 target] w fun e w' => e = .returned (.agg (learnBranchP cs c pc taken target)) ∧ Below w.heap.size w w' := by
  have hok2 := hok.setCnt (cntK_lt pc) (learnC_wf hw taken t0 t1)
  have Hsz := Lib.hid hok2.size
  have Hone := Lib.hid hok2.one
  have Hs := Lib.hid hok.size
  clear hok2 hw
  obtain ⟨c0, c1⟩ := hc
  have hk := cntK_lt pc
  obtain ⟨lv, tg⟩ := c
  dsimp only at c0 c1
  unfold learnBranchP
  generalize hkk : cntK pc = k at c0 c1 hk Hsz Hone
  have Hk := Lib.hid hkk
  obtain ⟨b0, b1⟩ := withinP_bd lv
  clear hkk hok
  rcases taken with _ | _
  · have ec : cs.setIfInBounds (k * 2) (.int .i64 (withinP (withinP lv - 1))) = setCnt cs k (learnC ⟨lv, tg⟩ false target) := by
      refine cnt_ext cs _ k _ Hs.out hk (fun j h0 h1 => by rw [set_get, if_neg (by omega)]) ⟨?_, ?_⟩ <;> simp only [set_get, Hs.out]
      · rw [if_pos ⟨trivial, by omega⟩]; rfl
      · rw [if_neg (by omega)]; exact c1
    rw [← ec] at Hsz Hone ⊢
    clear ec
    go_enter Try.func23, Try.ntmps23
    go_upto_region 2 with (go_at_call 48; (with_reducible refine (place_cnt pc _ h0 h1).mono ?_); rintro e w1 ⟨rfl, rfl⟩; rw [Hk.out])
    refine wp_gen fun wq hq => ?_
    have hB : Blk wq w.heap.size 38 cs := by rw [hq]; exact (Blk.new w _ _).alloc _
    obtain ⟨zs, hzs, hZ⟩ : ∃ zs : Array Value, zs.size = 64 ∧ Blk wq (w.heap.size + 1) 38 zs := ⟨_, rfl, by rw [hq]; exact Blk.newAt _ _ _ (by simp)⟩
    have hbq : Below w.heap.size w wq := by rw [hq]; exact ((Below.refl _ _).alloc (Nat.le_refl _) _).alloc (by simp) _
    have zq : wq.heap.size = w.heap.size + 2 := by rw [hq]; simp
    have Hz := Lib.hid zq
    have Hne := Lib.hid (show w.heap.size + 1 ≠ w.heap.size by omega)
    have Hzs := Lib.hid hzs
    have zq1 : w.heap.size < wq.heap.size := by omega
    have zq2 : w.heap.size + 1 < wq.heap.size := by omega
    have hBc := hB.cell
    have hBf := hB.frozen
    clear hq zq hzs
    go_upto_region 8 with (go_at_call 49; (with_reducible refine (bound_any _ _).mono ?_); rintro e w1 ⟨rfl, rfl⟩)
    go_wp2_with (first
      | (refine load_tab rfl _ rfl w.heap.size rfl _ (hB.set _ _) Hsz.out ?_)
      | (refine store_tab rfl _ _ rfl (w.heap.size + 1) _ rfl rfl _ (hZ.farAt Hne.out _) Hsz.out Hzs.out Hone.out ?_; intro w6 hB6 hg6))
    exact bodyPost_ret (v := .agg _) (results_blk rfl _ _ (w.heap.size + 1) 38 _ _ rfl hB6 Try.underlying38 rfl (tab_info Hsz.out)) rfl
      ⟨rfl, below_grown (hbq.setCell (by simp) _) hg6 (by simp; omega) (by omega)⟩
  · have ec : (cs.setIfInBounds (k * 2 + 1) (.int .u32 target)).setIfInBounds (k * 2) (.int .i64 (withinP (withinP lv + 1))) = setCnt cs k (learnC ⟨lv, tg⟩ true target) := by
      refine cnt_ext cs _ k _ Hs.out hk (fun j h0 h1 => by rw [set_get, if_neg (by omega), set_get, if_neg (by omega)]) ⟨?_, ?_⟩ <;> simp only [set_get, Hs.out, Array.size_setIfInBounds]
      · rw [if_pos ⟨trivial, by omega⟩]; rfl
      · rw [if_neg (by omega), if_pos ⟨trivial, by omega⟩]; rfl
    rw [← ec] at Hsz Hone ⊢
    clear ec
    go_enter Try.func23, Try.ntmps23
    go_upto_region 2 with (go_at_call 48; (with_reducible refine (place_cnt pc _ h0 h1).mono ?_); rintro e w1 ⟨rfl, rfl⟩; rw [Hk.out])
    refine wp_gen fun wq hq => ?_
    have hB : Blk wq w.heap.size 38 cs := by rw [hq]; exact (Blk.new w _ _).alloc _
    obtain ⟨zs, hzs, hZ⟩ : ∃ zs : Array Value, zs.size = 64 ∧ Blk wq (w.heap.size + 1) 38 zs := ⟨_, rfl, by rw [hq]; exact Blk.newAt _ _ _ (by simp)⟩
    have hbq : Below w.heap.size w wq := by rw [hq]; exact ((Below.refl _ _).alloc (Nat.le_refl _) _).alloc (by simp) _
    have zq : wq.heap.size = w.heap.size + 2 := by rw [hq]; simp
    have Hz := Lib.hid zq
    have Hne := Lib.hid (show w.heap.size + 1 ≠ w.heap.size by omega)
    have Hzs := Lib.hid hzs
    have zq1 : w.heap.size < wq.heap.size := by omega
    have zq2 : w.heap.size + 1 < wq.heap.size := by omega
    have hBc := hB.cell
    have hBf := hB.frozen
    clear hq zq hzs
    go_upto_region 6 with (go_at_call 49; (with_reducible refine (bound_any _ _).mono ?_); rintro e w1 ⟨rfl, rfl⟩)
    go_wp2_with (first
      | (refine load_tab rfl _ rfl w.heap.size rfl _ ((hB.set _ _).set _ _) Hsz.out ?_)
      | (refine store_tab rfl _ _ rfl (w.heap.size + 1) _ rfl rfl _ ((hZ.farAt Hne.out _).farAt Hne.out _) Hsz.out Hzs.out Hone.out ?_; intro w6 hB6 hg6))
    exact bodyPost_ret (v := .agg _) (results_blk rfl _ _ (w.heap.size + 1) 38 _ _ rfl hB6 Try.underlying38 rfl (tab_info Hsz.out)) rfl
      ⟨rfl, below_grown ((hbq.setCell (by simp) _).setCell (by simp) _) hg6 (by simp; omega) (by omega)⟩
set_option maxRecDepth 100000 in
set_option maxHeartbeats 1000000 in
theorem rlearnValue_new (cs : Array Value) (v : Vl) (pc n : Int) (w : World) (h0 : 0 ≤ pc) (h1 : pc ≤ 4294967295) (n0 : 0 ≤ n) (n1 : n ≤ 4294967295) (hok : TabOk cs) (hw : v.Wf) (hc : VlAt cs (vlK pc) v) (hne : v.pc ≠ pc) :
    Calls Try.prog 24 #[.agg cs, .int .u32 pc, .int .u32 n] w fun e w' => e = .returned (.agg (learnValueP cs v pc n)) ∧ Below w.heap.size w w' := by
  have hok2 := hok.setVl (vlK_lt pc) (learnV_wf hw h0 h1 n0 n1)
  have Hsz := Lib.hid hok2.size
  have Hone := Lib.hid hok2.one
  have Hs := Lib.hid hok.size
  obtain ⟨c0, c1, c2, c3⟩ := hc
  have hk := vlK_lt pc
  unfold learnValueP
  generalize hkk : vlK pc = k at c0 c1 c2 c3 hk Hsz Hone
  have Hk := Lib.hid hkk
  obtain ⟨vpc, last, stride, sure⟩ := v
  obtain ⟨p0, p1, l0, l1, s0, s1, u0, u1⟩ := hw
  dsimp only at c0 c1 c2 c3 p0 p1 l0 l1 s0 s1 u0 u1
  clear hkk hok hok2
  have e : learnV ⟨vpc, last, stride, sure⟩ pc n = ⟨pc, n, 0, 0⟩ := by unfold learnV; rw [if_pos hne]
  rw [e] at Hsz Hone ⊢
  dsimp only at hne
  have hle : 32 + k * 4 + (#[Value.int .u32 pc, .int .u32 n, .int .u32 0, .int .i64 0] : Array Value).size ≤ cs.size := by rw [Hs.out]; show 32 + k * 4 + 4 ≤ 64; omega
  have es : splice cs (32 + k * 4) (#[Value.int .u32 pc, .int .u32 n, .int .u32 0, .int .i64 0] : Array Value).toList = setVl cs k ⟨pc, n, 0, 0⟩ := vl_splice cs k ⟨pc, n, 0, 0⟩ Hs.out hk
  rw [← es] at Hsz Hone ⊢
  have Hle := Lib.hid hle
  clear es hle e
  go_enter Try.func24, Try.ntmps24
  go_upto_region 3 with (go_at_call 48; (with_reducible refine (place_vl pc _ h0 h1).mono ?_); rintro e w1 ⟨rfl, rfl⟩; rw [Hk.out])
  refine wp_gen fun wq hq => ?_
  have hB : Blk wq w.heap.size 38 cs := by rw [hq]; exact ((Blk.new w _ _).alloc _).alloc _
  obtain ⟨zs, hzs, hZ⟩ : ∃ zs : Array Value, zs.size = 64 ∧ Blk wq (w.heap.size + 1) 38 zs := ⟨_, rfl, by rw [hq]; exact (Blk.newAt _ _ _ (by simp)).alloc _⟩
  have hV : Blk wq (w.heap.size + 2) 35 #[.int .u32 vpc, .int .u32 last, .int .u32 stride, .int .i64 sure] := by rw [hq]; exact Blk.newAt _ _ _ (by simp)
  have hbq : Below w.heap.size w wq := by rw [hq]; exact (((Below.refl _ _).alloc (Nat.le_refl _) _).alloc (by simp) _).alloc (by simp; omega) _
  have zq : wq.heap.size = w.heap.size + 3 := by rw [hq]; simp
  have Hz := Lib.hid zq
  have Hne := Lib.hid (show w.heap.size + 1 ≠ w.heap.size by omega)
  have Hne2 := Lib.hid (show w.heap.size + 1 ≠ w.heap.size + 2 by omega)
  have Hne3 := Lib.hid (show w.heap.size ≠ w.heap.size + 2 by omega)
  have Hzs := Lib.hid hzs
  have zq1 : w.heap.size < wq.heap.size := by omega
  have zq2 : w.heap.size + 1 < wq.heap.size := by omega
  have zq3 : w.heap.size + 2 < wq.heap.size := by omega
  have hBc := hB.cell
  have hBf := hB.frozen
  have hVc := hV.cell
  have hVf := hV.frozen
  clear hq zq hzs
  go_upto_region 4 with (fail)
  go_wp2_with (first
    | (refine wpList_build_to rfl 35 _ rfl [(0, .int .u32 pc), (1, .int .u32 n)] ?_ _ (built_vl pc n) ?_; kernel_rfl)
    | (refine wpList_store_blk rfl 35 _ _ rfl w.heap.size (32 + k * 4) #[.int .u32 pc, .int .u32 n, .int .u32 0, .int .i64 0] rfl rfl 38 cs hB vl_info Hle.out vl_one ?_; intro w5 hB5 hg5)
    | (refine load_tab rfl _ rfl w.heap.size rfl _ hB5 Hsz.out ?_)
    | (refine store_tab rfl _ _ rfl (w.heap.size + 1) _ rfl rfl _ (hZ.grown hg5 (by simp)) Hsz.out Hzs.out Hone.out ?_; intro w6 hB6 hg6))
  exact bodyPost_ret (v := .agg _) (results_blk rfl _ _ (w.heap.size + 1) 38 _ _ rfl hB6 Try.underlying38 rfl (tab_info Hsz.out)) rfl
    ⟨rfl, below_grown (below_grown hbq hg5 (by omega) (Nat.le_refl _)) hg6 (by have := hg5.size; omega) (by omega)⟩
set_option maxRecDepth 100000 in
set_option maxHeartbeats 1000000 in
theorem rlearnValue_hit (cs : Array Value) (v : Vl) (pc n : Int) (w : World) (h0 : 0 ≤ pc) (h1 : pc ≤ 4294967295) (n0 : 0 ≤ n) (n1 : n ≤ 4294967295) (hok : TabOk cs) (hw : v.Wf) (hc : VlAt cs (vlK pc) v) (hne : v.pc = pc) (he : n = sumW v.last v.stride) :
    Calls Try.prog 24 #[.agg cs, .int .u32 pc, .int .u32 n] w fun e w' => e = .returned (.agg (learnValueP cs v pc n)) ∧ Below w.heap.size w w' := by
  have hok2 := hok.setVl (vlK_lt pc) (learnV_wf hw h0 h1 n0 n1)
  have Hsz := Lib.hid hok2.size
  have Hone := Lib.hid hok2.one
  have Hs := Lib.hid hok.size
  obtain ⟨c0, c1, c2, c3⟩ := hc
  have hk := vlK_lt pc
  unfold learnValueP
  generalize hkk : vlK pc = k at c0 c1 c2 c3 hk Hsz Hone
  have Hk := Lib.hid hkk
  obtain ⟨vpc, last, stride, sure⟩ := v
  obtain ⟨p0, p1, l0, l1, s0, s1, u0, u1⟩ := hw
  obtain ⟨b0, b1⟩ := withinP_bd sure
  dsimp only at c0 c1 c2 c3 p0 p1 l0 l1 s0 s1 u0 u1 hne he
  clear hkk hok hok2
  have e : learnV ⟨vpc, last, stride, sure⟩ pc n = ⟨vpc, n, stride, withinP (withinP sure + 1)⟩ := by unfold learnV; rw [if_neg (by simpa using hne), if_pos he]
  rw [e] at Hsz Hone ⊢
  have e1 : (n == sumW last stride) = true := by simp [he]
  have hle : 32 + k * 4 + (#[Value.int .u32 pc, .int .u32 n, .int .u32 (stride), .int .i64 (withinP (withinP sure + 1))] : Array Value).size ≤ cs.size := by rw [Hs.out]; show 32 + k * 4 + 4 ≤ 64; omega
  have es : splice cs (32 + k * 4) (#[Value.int .u32 pc, .int .u32 n, .int .u32 (stride), .int .i64 (withinP (withinP sure + 1))] : Array Value).toList = setVl cs k ⟨vpc, n, stride, withinP (withinP sure + 1)⟩ := by rw [hne]; exact vl_splice cs k ⟨pc, n, stride, withinP (withinP sure + 1)⟩ Hs.out hk
  rw [← es] at Hsz Hone ⊢
  have Hle := Lib.hid hle
  clear es hle e he
  obtain rfl : pc = vpc := hne.symm
  clear hne
  skip
  go_enter Try.func24, Try.ntmps24
  go_upto_region 3 with (go_at_call 48; (with_reducible refine (place_vl pc _ h0 h1).mono ?_); rintro e w1 ⟨rfl, rfl⟩; rw [Hk.out])
  refine wp_gen fun wq hq => ?_
  have hB : Blk wq w.heap.size 38 cs := by rw [hq]; exact ((Blk.new w _ _).alloc _).alloc _
  obtain ⟨zs, hzs, hZ⟩ : ∃ zs : Array Value, zs.size = 64 ∧ Blk wq (w.heap.size + 1) 38 zs := ⟨_, rfl, by rw [hq]; exact (Blk.newAt _ _ _ (by simp)).alloc _⟩
  have hV : Blk wq (w.heap.size + 2) 35 #[.int .u32 pc, .int .u32 last, .int .u32 stride, .int .i64 sure] := by rw [hq]; exact Blk.newAt _ _ _ (by simp)
  have hbq : Below w.heap.size w wq := by rw [hq]; exact (((Below.refl _ _).alloc (Nat.le_refl _) _).alloc (by simp) _).alloc (by simp; omega) _
  have zq : wq.heap.size = w.heap.size + 3 := by rw [hq]; simp
  have Hz := Lib.hid zq
  have Hne := Lib.hid (show w.heap.size + 1 ≠ w.heap.size by omega)
  have Hne2 := Lib.hid (show w.heap.size + 1 ≠ w.heap.size + 2 by omega)
  have Hne3 := Lib.hid (show w.heap.size ≠ w.heap.size + 2 by omega)
  have Hzs := Lib.hid hzs
  have zq1 : w.heap.size < wq.heap.size := by omega
  have zq2 : w.heap.size + 1 < wq.heap.size := by omega
  have zq3 : w.heap.size + 2 < wq.heap.size := by omega
  have hBc := hB.cell
  have hBf := hB.frozen
  have hVc := hV.cell
  have hVf := hV.frozen
  clear hq zq hzs
  go_upto_region 11 with (first | (go_at_call 49; (with_reducible refine (bound_any _ _).mono ?_); rintro e w1 ⟨rfl, rfl⟩) | (go_at_call 51; (with_reducible refine (gsum_any last stride _ l0 l1 s0 s1).mono ?_); rintro e w1 ⟨rfl, rfl⟩))
  go_wp2_with (first
    | (refine wpList_store_blk rfl 35 _ _ rfl w.heap.size (32 + k * 4) #[.int .u32 pc, .int .u32 n, .int .u32 (stride), .int .i64 (withinP (withinP sure + 1))] rfl rfl 38 cs ((hB.farAt Hne3.out _).farAt Hne3.out _) vl_info Hle.out vl_one ?_; intro w5 hB5 hg5)
    | (refine load_tab rfl _ rfl w.heap.size rfl _ hB5 Hsz.out ?_)
    | (refine store_tab rfl _ _ rfl (w.heap.size + 1) _ rfl rfl _ (((hZ.farAt Hne2.out _).farAt Hne2.out _).grown hg5 (by simp)) Hsz.out Hzs.out Hone.out ?_; intro w6 hB6 hg6))
  have z5 := hg5.size
  simp only [World.size_setCell] at z5
  have hb4 := below_set (b := w.heap.size + 2) (off := 1) (u := .int .u32 n) (Nat.le_add_right w.heap.size 2) (below_set (b := w.heap.size + 2) (off := 3) (u := .int .i64 (withinP (withinP sure + 1))) (Nat.le_add_right w.heap.size 2) hbq)
  exact bodyPost_ret (v := .agg _) (results_blk rfl _ _ (w.heap.size + 1) 38 _ _ rfl hB6 Try.underlying38 rfl (tab_info Hsz.out)) rfl
    ⟨rfl, below_grown (below_grown hb4 hg5 (by simp; omega) (Nat.le_refl _)) hg6 (by omega) (by omega)⟩
set_option maxRecDepth 100000 in
set_option maxHeartbeats 1000000 in
theorem rlearnValue_miss (cs : Array Value) (v : Vl) (pc n : Int) (w : World) (h0 : 0 ≤ pc) (h1 : pc ≤ 4294967295) (n0 : 0 ≤ n) (n1 : n ≤ 4294967295) (hok : TabOk cs) (hw : v.Wf) (hc : VlAt cs (vlK pc) v) (hne : v.pc = pc) (he : n ≠ sumW v.last v.stride) :
    Calls Try.prog 24 #[.agg cs, .int .u32 pc, .int .u32 n] w fun e w' => e = .returned (.agg (learnValueP cs v pc n)) ∧ Below w.heap.size w w' := by
  have hok2 := hok.setVl (vlK_lt pc) (learnV_wf hw h0 h1 n0 n1)
  have Hsz := Lib.hid hok2.size
  have Hone := Lib.hid hok2.one
  have Hs := Lib.hid hok.size
  obtain ⟨c0, c1, c2, c3⟩ := hc
  have hk := vlK_lt pc
  unfold learnValueP
  generalize hkk : vlK pc = k at c0 c1 c2 c3 hk Hsz Hone
  have Hk := Lib.hid hkk
  obtain ⟨vpc, last, stride, sure⟩ := v
  obtain ⟨p0, p1, l0, l1, s0, s1, u0, u1⟩ := hw
  obtain ⟨b0, b1⟩ := withinP_bd sure
  dsimp only at c0 c1 c2 c3 p0 p1 l0 l1 s0 s1 u0 u1 hne he
  clear hkk hok hok2
  have e : learnV ⟨vpc, last, stride, sure⟩ pc n = ⟨vpc, n, subW n last, 0⟩ := by unfold learnV; rw [if_neg (by simpa using hne), if_neg he]
  rw [e] at Hsz Hone ⊢
  have e1 : (n == sumW last stride) = false := by simp [he]
  have hle : 32 + k * 4 + (#[Value.int .u32 pc, .int .u32 n, .int .u32 (subW n last), .int .i64 (0)] : Array Value).size ≤ cs.size := by rw [Hs.out]; show 32 + k * 4 + 4 ≤ 64; omega
  have es : splice cs (32 + k * 4) (#[Value.int .u32 pc, .int .u32 n, .int .u32 (subW n last), .int .i64 (0)] : Array Value).toList = setVl cs k ⟨vpc, n, subW n last, 0⟩ := by rw [hne]; exact vl_splice cs k ⟨pc, n, subW n last, 0⟩ Hs.out hk
  rw [← es] at Hsz Hone ⊢
  have Hle := Lib.hid hle
  clear es hle e he
  obtain rfl : pc = vpc := hne.symm
  clear hne
  have em : (n - last + 4294967296) % 4294967296 = subW n last := (by unfold subW; omega); have em0 : 0 ≤ n - last + 4294967296 := (by omega); have em1 : n - last + 4294967296 ≤ 9223372036854775807 := (by omega); have em2 : 0 ≤ subW n last := (by unfold subW; omega); have em3 : subW n last ≤ 4294967295 := (by unfold subW; omega)
  go_enter Try.func24, Try.ntmps24
  go_upto_region 3 with (go_at_call 48; (with_reducible refine (place_vl pc _ h0 h1).mono ?_); rintro e w1 ⟨rfl, rfl⟩; rw [Hk.out])
  refine wp_gen fun wq hq => ?_
  have hB : Blk wq w.heap.size 38 cs := by rw [hq]; exact ((Blk.new w _ _).alloc _).alloc _
  obtain ⟨zs, hzs, hZ⟩ : ∃ zs : Array Value, zs.size = 64 ∧ Blk wq (w.heap.size + 1) 38 zs := ⟨_, rfl, by rw [hq]; exact (Blk.newAt _ _ _ (by simp)).alloc _⟩
  have hV : Blk wq (w.heap.size + 2) 35 #[.int .u32 pc, .int .u32 last, .int .u32 stride, .int .i64 sure] := by rw [hq]; exact Blk.newAt _ _ _ (by simp)
  have hbq : Below w.heap.size w wq := by rw [hq]; exact (((Below.refl _ _).alloc (Nat.le_refl _) _).alloc (by simp) _).alloc (by simp; omega) _
  have zq : wq.heap.size = w.heap.size + 3 := by rw [hq]; simp
  have Hz := Lib.hid zq
  have Hne := Lib.hid (show w.heap.size + 1 ≠ w.heap.size by omega)
  have Hne2 := Lib.hid (show w.heap.size + 1 ≠ w.heap.size + 2 by omega)
  have Hne3 := Lib.hid (show w.heap.size ≠ w.heap.size + 2 by omega)
  have Hzs := Lib.hid hzs
  have zq1 : w.heap.size < wq.heap.size := by omega
  have zq2 : w.heap.size + 1 < wq.heap.size := by omega
  have zq3 : w.heap.size + 2 < wq.heap.size := by omega
  have hBc := hB.cell
  have hBf := hB.frozen
  have hVc := hV.cell
  have hVf := hV.frozen
  clear hq zq hzs
  go_upto_region 11 with (first | (go_at_call 49; (with_reducible refine (bound_any _ _).mono ?_); rintro e w1 ⟨rfl, rfl⟩) | (go_at_call 51; (with_reducible refine (gsum_any last stride _ l0 l1 s0 s1).mono ?_); rintro e w1 ⟨rfl, rfl⟩))
  go_wp2_with (first
    | (refine wpList_store_blk rfl 35 _ _ rfl w.heap.size (32 + k * 4) #[.int .u32 pc, .int .u32 n, .int .u32 (subW n last), .int .i64 (0)] rfl rfl 38 cs (((hB.farAt Hne3.out _).farAt Hne3.out _).farAt Hne3.out _) vl_info Hle.out vl_one ?_; intro w5 hB5 hg5)
    | (refine load_tab rfl _ rfl w.heap.size rfl _ hB5 Hsz.out ?_)
    | (refine store_tab rfl _ _ rfl (w.heap.size + 1) _ rfl rfl _ ((((hZ.farAt Hne2.out _).farAt Hne2.out _).farAt Hne2.out _).grown hg5 (by simp)) Hsz.out Hzs.out Hone.out ?_; intro w6 hB6 hg6))
  have z5 := hg5.size
  simp only [World.size_setCell] at z5
  have hb4 := below_set (b := w.heap.size + 2) (off := 1) (u := .int .u32 n) (Nat.le_add_right w.heap.size 2) (below_set (b := w.heap.size + 2) (off := 2) (u := .int .u32 (subW n last)) (Nat.le_add_right w.heap.size 2) (below_set (b := w.heap.size + 2) (off := 3) (u := .int .i64 (0)) (Nat.le_add_right w.heap.size 2) hbq))
  exact bodyPost_ret (v := .agg _) (results_blk rfl _ _ (w.heap.size + 1) 38 _ _ rfl hB6 Try.underlying38 rfl (tab_info Hsz.out)) rfl
    ⟨rfl, below_grown (below_grown hb4 hg5 (by simp; omega) (Nat.le_refl _)) hg6 (by omega) (by omega)⟩
theorem rlearnValue_any (cs : Array Value) (v : Vl) (pc n : Int) (w : World) (h0 : 0 ≤ pc) (h1 : pc ≤ 4294967295) (n0 : 0 ≤ n) (n1 : n ≤ 4294967295) (hok : TabOk cs) (hw : v.Wf) (hc : VlAt cs (vlK pc) v) :
    Calls Try.prog 24 #[.agg cs, .int .u32 pc, .int .u32 n] w fun e w' => e = .returned (.agg (learnValueP cs v pc n)) ∧ Below w.heap.size w w' := by
  by_cases h : v.pc = pc
  · by_cases h' : n = sumW v.last v.stride
    · exact rlearnValue_hit cs v pc n w h0 h1 n0 n1 hok hw hc h h'
    · exact rlearnValue_miss cs v pc n w h0 h1 n0 n1 hok hw hc h h'
  · exact rlearnValue_new cs v pc n w h0 h1 n0 n1 hok hw hc h
end Go.Proofs.Ytapgojgcmlnbgaa
