/- The walk of the document's answer on maps of registers: New. -/
import Derived.Test.YtapgojgcmlnbgaaRename6
namespace Go.Proofs.Ytapgojgcmlnbgaa
open Go.RowKit

theorem mapCells_setreg (phys : Int) (regs : List Int) (A : Option Addr) (n cap : Nat) (k : Nat) (p : Int) (h : regs.length = 32) (hk : k < 32) :
    (mapCells phys regs A n cap).setIfInBounds (1 + k) (.int .i64 p) = mapCells phys (regs.set k p) A n cap := by
  unfold mapCells
  rw [List.setIfInBounds_toArray, Nat.add_comm 1 k, List.set_cons_succ, List.set_append_left _ _ (by simp [h]; omega), List.map_set]
theorem mapCells_setfree (phys : Int) (regs : List Int) (A A' : Option Addr) (n cap n' cap' : Nat) (h : regs.length = 32) :
    (mapCells phys regs A n cap).setIfInBounds 33 (.slice A' n' cap') = mapCells phys regs A' n' cap' := by
  unfold mapCells
  rw [List.setIfInBounds_toArray, List.set_cons_succ, List.set_append_right _ _ (by simp [h])]
  simp [h]
theorem mapCells_setphys (phys : Int) (regs : List Int) (A : Option Addr) (n cap : Nat) (q : Int) :
    (mapCells phys regs A n cap).setIfInBounds 0 (.int .i64 q) = mapCells q regs A n cap := by
  unfold mapCells
  rw [List.setIfInBounds_toArray, List.set_cons_zero]
set_option maxRecDepth 100000 in
set_option maxHeartbeats 1000000 in
theorem rnew_any (phys : Int) (w : World) (hp0 : -9223372036854775808 ≤ phys) (hp1 : phys ≤ 9223372036854775807) :
    Calls Try.prog 37 #[.int .i64 phys] w fun e w' => ∃ v', e = .returned (.tuple #[v', .int .i64 (if 33 ≤ phys ∧ phys ≤ 96 then 0 else 3)]) ∧ Below w.heap.size w w' ∧ MapF w' w.heap.size (newD phys) v' := by
  by_cases hok : 33 ≤ phys ∧ phys ≤ 96
  · rw [if_pos hok]
    obtain ⟨N, rfl⟩ := Int.eq_ofNat_of_zero_le (show 0 ≤ phys by omega)
    have hnd : newD (N : Int) = ⟨N, regs0, free0 (N - 32)⟩ := by
      unfold newD newP
      rw [if_pos hok]
      show RMap.mk _ _ _ = _
      congr 2
      omega
    rw [hnd]
    obtain ⟨h1, h2⟩ := hok
    have h33 : 33 ≤ N := by omega
    have h96 : N ≤ 96 := by omega
    clear hnd hp0 hp1
    have e1 : decide ((N : Int) < 33) = false := decide_eq_false (by omega)
    have e2 : decide (96 < (N : Int)) = false := decide_eq_false (by omega)
    go_enter Try.func37, Try.ntmps37
    go_upto_region 1 with (fail)
    go_simp
    refine wp_gen fun wa hq => ?_
    have hR : Blk wa w.heap.size 50 (mapCells 0 (List.replicate 32 0) none 0 0) := by rw [hq]; exact Blk.new w 50 _
    have hb : Below w.heap.size w wa := by rw [hq]; exact (Below.refl w.heap.size w).alloc (Nat.le_refl _) _
    have hz : wa.heap.size = w.heap.size + 1 := by rw [hq]; simp
    clear hq
    have hB0 := Blk.newAt wa 50 (mapCells 0 (List.replicate 32 0) none 0 0) (g := w.heap.size + 1) hz.symm
    have hR0 := hR.alloc (.cells (mapCells 0 (List.replicate 32 0) none 0 0) 50)
    have hb0 := hb.alloc hb.size (.cells (mapCells 0 (List.replicate 32 0) none 0 0) 50)
    go_upto_region 4 with (first
      | (refine wpList_build_to rfl 50 _ rfl [] rfl _ built_map0 ?_)
      | (refine wpList_store_all rfl 50 _ _ rfl (w.heap.size + 1) (mapCells 0 (List.replicate 32 0) none 0 0) (by simp [Act.eval, Act.put, hz]) rfl 50 _ hB0 zero_info rfl (map_one _ _ _ _ _) ?_; intro w5 hB5 hg5))
    try rw [hz]
    have hR5 := hR0.grown hg5 (by simp)
    have hb5 := below_grown hb0 hg5 (by simp; omega) (Nat.le_succ _)
    have hz5 := hg5.size
    simp only [World.size_alloc] at hz5
    have hs5 : w.heap.size + 2 ≤ w5.heap.size := by omega
    clear hg5 hB0 hR0 hb0 hR hb hz hz5
    have c0 := hB5.cell 0
    rw [mapCells_0] at c0
    have f0 := hB5.frozen 0
    have hB6 := hB5.set 0 (.int .i64 N)
    rw [mapCells_setphys, ← newR_zero] at hB6
    have hR6 := hR5.far (p := ⟨w.heap.size + 1, 0, none⟩) (Nat.ne_of_lt (Nat.lt_succ_self _)) (.int .i64 N)
    have hb6 := hb5.setCell (p := ⟨w.heap.size + 1, 0, none⟩) (Nat.le_succ _) (.int .i64 N)
    have hs6 : w.heap.size + 2 ≤ (w5.setCell ⟨w.heap.size + 1, 0, none⟩ (.int .i64 N)).heap.size := by simpa using hs5
    have HH := Lib.hid (And.intro hb6 (And.intro hR6 (And.intro hB6 hs6)))
    clear hb6 hR6 hB6 hs6 hs5 hb5 hR5 hB5
    go_wp2_with (fail)
    obtain ⟨hb6, hR6, hB6, hs6⟩ := HH.out
    clear HH c0 f0
    generalize w5.setCell ⟨w.heap.size + 1, 0, none⟩ (.int .i64 N) = w6 at *
    go_loopw [5] (fun v wr => ∃ k : Nat, v = .int .i64 k ∧ k ≤ 32 ∧ Below w.heap.size w wr ∧ Blk wr w.heap.size 50 (mapCells 0 (List.replicate 32 0) none 0 0) ∧ Blk wr (w.heap.size + 1) 50 (mapCells N (newR k) none 0 0) ∧ w.heap.size + 2 ≤ wr.heap.size) (fun v _ => 33 - (intOf v).toNat)
    case atStart => exact ⟨0, rfl, by omega, hb6, hR6, hB6, hs6⟩
    case round =>
      clear hb6 hR6 hB6 hs6
      obtain ⟨k, rfl, hk, hb, hR, hB, hs⟩ := hrel
      by_cases hlt : k < 32
      · have ck := hB.cell (1 + k)
        rw [mapCells_reg _ _ _ _ _ (by rw [newR_len]; exact hlt)] at ck
        have fk := hB.frozen (1 + k)
        have hB9 := hB.set (1 + k) (.int .i64 k)
        rw [mapCells_setreg _ _ _ _ _ _ _ (newR_len k) hlt, newR_set hlt] at hB9
        have hR9 := hR.far (p := ⟨w.heap.size + 1, 1 + k, none⟩) (Nat.ne_of_lt (Nat.lt_succ_self _)) (.int .i64 k)
        have hb9 := hb.setCell (p := ⟨w.heap.size + 1, 1 + k, none⟩) (Nat.le_succ _) (.int .i64 k)
        have hs9 : w.heap.size + 2 ≤ (wr.setCell ⟨w.heap.size + 1, 1 + k, none⟩ (.int .i64 k)).heap.size := by simpa using hs
        have HH := Lib.hid (And.intro hb9 (And.intro hR9 (And.intro hB9 hs9)))
        clear hb9 hR9 hB9 hs9 hR hb
        go_wp2_with (fail)
        go_roundw
        case rel => exact ⟨k + 1, by go_num, by omega, HH.out.1, HH.out.2.1, HH.out.2.2.1, HH.out.2.2.2⟩
        case measure => (simp [intOf] <;> omega)
      · obtain rfl : k = 32 := by omega
        simp only [show ((32 : Nat) : Int) = 32 from rfl]
        rw [newR_all (Nat.le_refl _)] at hB
        obtain ⟨i0, hi, hz0, hz1, hz2⟩ := info_parts ints_info
        have hl0 : regs0.length = 32 := by decide
        go_wp2_with (fail)
        go_loopw [6] (fun v wr => ∃ (k : Nat) (A : Option Addr) (cap : Nat), v = .int .i64 ((32 + k : Nat) : Int) ∧ 32 + k ≤ N ∧ Below w.heap.size w wr ∧ Blk wr w.heap.size 50 (mapCells 0 (List.replicate 32 0) none 0 0) ∧ Blk wr (w.heap.size + 1) 50 (mapCells N regs0 A k cap) ∧ wr.ownsRow (w.heap.size + 2) 3 1 (.slice A k cap) k ((free0 k).map (.int .i64)) ∧ w.heap.size + 2 ≤ wr.heap.size) (fun v _ => N + 1 - (intOf v).toNat)
        case atStart => exact ⟨0, none, 0, rfl, by omega, hb, hR, hB, World.ownsRow_nil _ _ _ _, hs⟩
        case round =>
          clear hb hR hB hs
          obtain ⟨k, A, cap, rfl, hk, hb, hR, hB, hown, hs⟩ := hrel
          by_cases hlt2 : 32 + k < N
          · have c33 := hB.cell 33
            rw [mapCells_free _ _ _ _ _ hl0] at c33
            have f33 := hB.frozen 33
            go_wp2_with (refine wpList_append_any rfl (.tmp 31) (.tmp 33) 48 rfl (w.heap.size + 2) 3 i0 _ 1 8 Try.underlying48 hi hz0 hz1 hz2 rfl (by decide) (.slice A k cap) k _ rfl (hown.alloc _) (some ⟨wr.heap.size, 0, none⟩) 1 1 [.int .i64 ((32 + k : Nat) : Int)] rfl rfl (fun h => by cases h) (lit_one wr _ _) (by simp; rfl) (by unfold maxLen; omega) (by omega) (by simp; omega) ?_; intro v7 w7 hown7 hg7; have hB7 := (hB.alloc (.cells #[.int .i64 ((32 + k : Nat) : Int)] 3)).grown hg7 (fun h => by have := (hown.lt _ h.symm).1; omega); have hR7 := (hR.alloc (.cells #[.int .i64 ((32 + k : Nat) : Int)] 3)).grown hg7 (fun h => by have := (hown.lt _ h.symm).1; omega); have hb7 := (hb.alloc hb.size (.cells #[.int .i64 ((32 + k : Nat) : Int)] 3)).grown hg7 (by have := hb.size; simp; omega) (fun j hj => by have := (hown.lt _ hj).1; omega); have hs7 := hg7.size; simp only [World.size_alloc] at hs7; have c7 := hB7.cell 33; rw [mapCells_free _ _ _ _ _ hl0] at c7; have f7 := hB7.frozen 33; rw [show (free0 k).map (Value.int .i64) ++ [.int .i64 ((32 + k : Nat) : Int)] = (free0 (k + 1)).map (Value.int .i64) by rw [free0_succ, List.map_append]; rfl] at hown7; obtain ⟨A7, cap7, rfl⟩ := own_value hown7; clear c33 f33 hg7)
            have hB9 := hB7.set 33 (.slice A7 (k + 1) cap7)
            rw [mapCells_setfree _ _ _ _ _ _ _ _ hl0] at hB9
            have hb9 := hb7.setCell (p := ⟨w.heap.size + 1, 33, none⟩) (Nat.le_succ _) (.slice A7 (k + 1) cap7)
            have hR9 := hR7.far (p := ⟨w.heap.size + 1, 33, none⟩) (Nat.ne_of_lt (Nat.lt_succ_self _)) (.slice A7 (k + 1) cap7)
            have hown9 := hown7.kept (grownBy_setCell w7 ⟨w.heap.size + 1, 33, none⟩ (.slice A7 (k + 1) cap7)) (by
              rcases hv : (Value.slice A7 (k + 1) cap7).ownBlock with _ | b
              · exact Or.inl rfl
              · right; intro e; injection e with e; have := (hown7.lt b hv).1; simp at e; omega)
            have hs9 : w.heap.size + 2 ≤ (w7.setCell ⟨w.heap.size + 1, 33, none⟩ (.slice A7 (k + 1) cap7)).heap.size := by simp; omega
            go_roundw
            case rel => exact ⟨k + 1, A7, cap7, by go_num, by omega, hb9, hR9, hB9, hown9, hs9⟩
            case measure => (simp [intOf] <;> omega)
          · obtain rfl : N = 32 + k := by omega
            have hs9 := map_info (phys := ((32 + k : Nat) : Int)) (A := A) (n := k) (cap := cap) hl0
            have h19 := map_one ((32 + k : Nat) : Int) regs0 A k cap
            obtain ⟨cs9, h9⟩ : ∃ cs9, cs9 = mapCells ((32 + k : Nat) : Int) regs0 A k cap := ⟨_, rfl⟩
            have Hv9 := Lib.hid h9
            have hsz9 : (mapCells ((32 + k : Nat) : Int) regs0 A k cap).size = (mapCells 0 (List.replicate 32 0) none 0 0).size := by rw [mapCells_size _ _ _ _ _ hl0]; rfl
            rw [← h9] at hsz9 hs9 h19 hB
            clear h9
            go_wp2_with (first
              | (refine wpList_load_all rfl 50 _ rfl (w.heap.size + 1) rfl 50 cs9 _ hB Try.underlying50 rfl hs9 ?_)
              | (refine wpList_store_all rfl 50 _ _ rfl w.heap.size cs9 rfl rfl 50 _ hR hs9 hsz9 h19 ?_; intro wx hBx hgx; have hld := load_map hBx hs9))
            refine bodyPost_ret (results_ct Try.results37 rfl rfl hld) rfl ?_
            have hl1 : (free0 k).length = k := by simp [free0]
            have hk32 : 32 + k - 32 = k := by omega
            rw [hk32]
            obtain ⟨A', cap', he, _, hn', hA', hc', hg'⟩ := own_ints hown
            cases he
            refine ⟨_, rfl, below_grown hb hgx hb.size (Nat.le_refl _), A, cap, by rw [Hv9.out]; show _ = Value.agg (mapCells ((32 + k : Nat) : Int) regs0 A (free0 k).length cap); rw [hl1], ?_, fun ad h => by have := hg' ad h; omega⟩
            have hA10 := (hA'.grown (Nat.le_refl _) hgx (fun ad h => by have := hg' ad h; omega)).mono hgx.size
            refine ⟨by show _ ≤ ((32 + k : Nat) : Int); omega, by show ((32 + k : Nat) : Int) ≤ _; omega, hl0, by show (free0 k).length ≤ _; omega, by show (free0 k).length ≤ _; omega, hA10, hn', fun x hx => ?_⟩
            have hx' : x ∈ regs0 ++ free0 k := hx
            rw [new_eq] at hx'
            obtain ⟨j, hj, rfl⟩ := List.mem_map.1 hx'
            have := List.mem_range.1 hj
            show _ ≤ (j : Int) ∧ (j : Int) ≤ _
            omega
  · rw [if_neg hok]
    have hnd : newD phys = RMap.zero := by unfold newD newP; rw [if_neg hok]; rfl
    have hok' : phys < 33 ∨ (33 ≤ phys ∧ 96 < phys) := by omega
    rw [hnd]
    clear hok hnd
    rcases hok' with h1 | ⟨h1, h2⟩
    ·
      go_enter Try.func37, Try.ntmps37
      go_upto_region 1 with (fail)
      go_simp
      refine wp_gen fun wa hq => ?_
      have hb2 : Below w.heap.size w wa := by rw [hq]; exact (Below.refl w.heap.size w).alloc (Nat.le_refl _) _
      have hR : Blk wa w.heap.size 50 (mapCells 0 (List.replicate 32 0) none 0 0) := by rw [hq]; exact Blk.new w 50 _
      have hz : wa.heap.size = w.heap.size + 1 := by rw [hq]; simp
      clear hq
      have hB0 := Blk.newAt wa 50 (mapCells 0 (List.replicate 32 0) none 0 0) (g := w.heap.size + 1) hz.symm
      have hR0 := hR.alloc (.cells (mapCells 0 (List.replicate 32 0) none 0 0) 50)
      have hb0 := hb2.alloc hb2.size (.cells (mapCells 0 (List.replicate 32 0) none 0 0) 50)
      go_wp2_with (first
        | (refine wpList_build_to rfl 50 _ rfl [] rfl _ built_map0 ?_)
        | (refine wpList_store_all rfl 50 _ _ rfl (w.heap.size + 1) (mapCells 0 (List.replicate 32 0) none 0 0) (by simp [Act.eval, Act.put, hz]) rfl 50 _ hB0 zero_info rfl (map_one _ _ _ _ _) ?_; intro w5 hB5 hg5; have hR5 := hR0.grown hg5 (by simp); have hb5 := below_grown hb0 hg5 (by simp; omega) (Nat.le_succ _))
        | (refine wpList_load_all rfl 50 _ rfl (w.heap.size + 1) (by simp [Act.eval, hz]) 50 _ _ hB5 Try.underlying50 rfl zero_info ?_)
        | (refine wpList_store_all rfl 50 _ _ rfl w.heap.size (mapCells 0 (List.replicate 32 0) none 0 0) rfl rfl 50 _ hR5 zero_info rfl (map_one _ _ _ _ _) ?_; intro w6 hB6 hg6; have hld := load_map hB6 zero_info))
      refine bodyPost_ret (results_ct Try.results37 rfl rfl hld) rfl ?_
      exact ⟨_, rfl, below_grown hb5 hg6 hb5.size (Nat.le_refl _), MapF.zero _ _⟩
    ·
      go_enter Try.func37, Try.ntmps37
      go_upto_region 1 with (fail)
      go_simp
      refine wp_gen fun wa hq => ?_
      have hb2 : Below w.heap.size w wa := by rw [hq]; exact (Below.refl w.heap.size w).alloc (Nat.le_refl _) _
      have hR : Blk wa w.heap.size 50 (mapCells 0 (List.replicate 32 0) none 0 0) := by rw [hq]; exact Blk.new w 50 _
      have hz : wa.heap.size = w.heap.size + 1 := by rw [hq]; simp
      clear hq
      have hB0 := Blk.newAt wa 50 (mapCells 0 (List.replicate 32 0) none 0 0) (g := w.heap.size + 1) hz.symm
      have hR0 := hR.alloc (.cells (mapCells 0 (List.replicate 32 0) none 0 0) 50)
      have hb0 := hb2.alloc hb2.size (.cells (mapCells 0 (List.replicate 32 0) none 0 0) 50)
      go_wp2_with (first
        | (refine wpList_build_to rfl 50 _ rfl [] rfl _ built_map0 ?_)
        | (refine wpList_store_all rfl 50 _ _ rfl (w.heap.size + 1) (mapCells 0 (List.replicate 32 0) none 0 0) (by simp [Act.eval, Act.put, hz]) rfl 50 _ hB0 zero_info rfl (map_one _ _ _ _ _) ?_; intro w5 hB5 hg5; have hR5 := hR0.grown hg5 (by simp); have hb5 := below_grown hb0 hg5 (by simp; omega) (Nat.le_succ _))
        | (refine wpList_load_all rfl 50 _ rfl (w.heap.size + 1) (by simp [Act.eval, hz]) 50 _ _ hB5 Try.underlying50 rfl zero_info ?_)
        | (refine wpList_store_all rfl 50 _ _ rfl w.heap.size (mapCells 0 (List.replicate 32 0) none 0 0) rfl rfl 50 _ hR5 zero_info rfl (map_one _ _ _ _ _) ?_; intro w6 hB6 hg6; have hld := load_map hB6 zero_info))
      refine bodyPost_ret (results_ct Try.results37 rfl rfl hld) rfl ?_
      exact ⟨_, rfl, below_grown hb5 hg6 hb5.size (Nat.le_refl _), MapF.zero _ _⟩
end Go.Proofs.Ytapgojgcmlnbgaa
