/- The walk of rename.New. -/
import Derived.Test.YtapgojgcmlnbgaaRename5
namespace Go.Proofs.Ytapgojgcmlnbgaa
open Go.RowKit

def newR (k : Nat) : List Int := (List.range 32).map fun i => if i < k then (i : Int) else 0
theorem newR_len (k : Nat) : (newR k).length = 32 := by simp [newR]
theorem newR_set {k : Nat} (h : k < 32) : (newR k).set k (k : Int) = newR (k + 1) := by
  apply List.ext_getElem?
  intro i
  rw [List.getElem?_set]
  unfold newR
  by_cases hi : i < 32
  · simp only [List.length_map, List.length_range, h, if_true, List.getElem?_map, List.getElem?_range hi, Option.map_some]
    by_cases hk : k = i
    · subst hk
      simp
    · rw [if_neg hk]
      congr 1
      by_cases h1 : i < k
      · rw [if_pos h1, if_pos (by omega)]
      · rw [if_neg h1, if_neg (by omega)]
  · rw [List.getElem?_eq_none (by simp; omega), List.getElem?_eq_none (by simp; omega), if_neg (by omega)]
theorem newR_all {k : Nat} (h : 32 ≤ k) : newR k = regs0 := by
  unfold newR regs0
  apply List.map_congr_left
  intro i hi
  have := List.mem_range.1 hi
  rw [if_pos (by omega)]
  rfl
theorem newR_zero : newR 0 = List.replicate 32 0 := by decide
theorem free0_succ (j : Nat) : free0 (j + 1) = free0 j ++ [((32 + j : Nat) : Int)] := by
  unfold free0
  rw [List.range_succ, List.map_append]
  rfl
theorem grownBy_setCell (w : World) (p : Addr) (u : Value) : w.grownBy (w.setCell p u) (some p.block) :=
  ⟨rfl, rfl, rfl, by simp, fun k _ hne => Below.heap_setCell w p u k (fun e => hne (by rw [e]))⟩
def newD (phys : Int) : RMap := (newP phys).getD RMap.zero
set_option maxRecDepth 100000 in
set_option maxHeartbeats 1000000 in
theorem new_any (phys : Int) (w : World) (hp0 : -9223372036854775808 ≤ phys) (hp1 : phys ≤ 9223372036854775807) :
    Calls Try.prog 25 #[.int .i64 phys] w fun e w' => ∃ v', e = .returned (.tuple #[v', .int .i64 (if 33 ≤ phys ∧ phys ≤ 96 then 0 else 3)]) ∧ Below w.heap.size w w' ∧ MapF w' w.heap.size (newD phys) v' := by
  by_cases hok : 33 ≤ phys ∧ phys ≤ 96
  · rw [if_pos hok]
    obtain ⟨N, rfl⟩ := Int.eq_ofNat_of_zero_le (show 0 ≤ phys by omega)
    have hnd : newD (N : Int) = ⟨N, regs0, free0 (N - 32)⟩ := by
      unfold newD newP
      rw [if_pos hok]
      show RMap.mk _ _ _ = _
      congr 2
      omega
    rw [hnd]
    obtain ⟨h1, h2⟩ := hok
    have h33 : 33 ≤ N := by omega
    have h96 : N ≤ 96 := by omega
    clear hnd hp0 hp1
    have built1 : Try.prog.built 50 [(0, .int .i64 N)] = some (mapCells N (List.replicate 32 0) none 0 0) := by kernel_rfl
    go_enter Try.func25, Try.ntmps25
    go_upto_region 3 with (fail)
    go_simp
    refine wp_gen fun wa hq => ?_
    have hR : Blk wa w.heap.size 50 (mapCells 0 (List.replicate 32 0) none 0 0) := by rw [hq]; exact Blk.new w 50 _
    have hb : Below w.heap.size w wa := by rw [hq]; exact (Below.refl w.heap.size w).alloc (Nat.le_refl _) _
    have hz : wa.heap.size = w.heap.size + 1 := by rw [hq]; simp
    clear hq
    have hB0 := Blk.newAt wa 50 (mapCells 0 (List.replicate 32 0) none 0 0) (g := w.heap.size + 1) hz.symm
    have hR0 := hR.alloc (.cells (mapCells 0 (List.replicate 32 0) none 0 0) 50)
    have hb0 := hb.alloc hb.size (.cells (mapCells 0 (List.replicate 32 0) none 0 0) 50)
    go_upto_region 5 with (first
      | (refine wpList_build_to rfl 50 _ rfl [(0, .int .i64 N)] rfl _ built1 ?_)
      | (refine wpList_store_all rfl 50 _ _ rfl (w.heap.size + 1) (mapCells N (List.replicate 32 0) none 0 0) (by simp [Act.eval, Act.put, hz]) rfl 50 _ hB0 (map_info rfl) rfl (map_one _ _ _ _ _) ?_; intro w5 hB5 hg5))
    have hR5 := hR0.grown hg5 (by simp)
    have hb5 := below_grown hb0 hg5 (by simp; omega) (Nat.le_succ _)
    have hz5 := hg5.size
    simp only [World.size_alloc] at hz5
    obtain ⟨i0, hi, hz0, hz1, hz2⟩ := info_parts ints_info
    have hs5 : w.heap.size + 2 ≤ w5.heap.size := by omega
    have hB6 : Blk w5 (w.heap.size + 1) 50 (mapCells N (newR 0) none (0 - 32) 0) := by rw [newR_zero]; exact hB5
    clear hg5 hB0 hR0 hb0 hR hb hz hz5 hB5
    go_loopw [16] (fun v wr => ∃ (k : Nat) (A : Option Addr) (cap : Nat), v = .int .i64 k ∧ k ≤ N ∧ Below w.heap.size w wr ∧ Blk wr w.heap.size 50 (mapCells 0 (List.replicate 32 0) none 0 0) ∧ Blk wr (w.heap.size + 1) 50 (mapCells N (newR k) A (k - 32) cap) ∧ wr.ownsRow (w.heap.size + 2) 3 1 (.slice A (k - 32) cap) (k - 32) ((free0 (k - 32)).map (.int .i64)) ∧ w.heap.size + 2 ≤ wr.heap.size) (fun v _ => N + 1 - (intOf v).toNat)
    case atStart => exact ⟨0, none, 0, rfl, by omega, hb5, hR5, hB6, World.ownsRow_nil _ _ _ _, hs5⟩
    case round =>
      clear hb5 hR5 hB6 hs5
      obtain ⟨k, A, cap, rfl, hk, hb, hR, hB, hown, hs⟩ := hrel
      have hlt0 : (k : Int) ≤ N := by omega
      by_cases hlt : k < N
      · by_cases h32 : k < 32
        · have ck := hB.cell (1 + k)
          rw [mapCells_reg _ _ _ _ _ (by rw [newR_len]; exact h32)] at ck
          have fk := hB.frozen (1 + k)
          have hB9 := hB.set (1 + k) (.int .i64 k)
          have hc9 : (mapCells N (newR k) A (k - 32) cap).setIfInBounds (1 + k) (.int .i64 k) = mapCells N (newR (k + 1)) A (k + 1 - 32) cap := by
            have h1 := mapCells_set N (newR k) A A (k - 32) cap (k - 32) cap k k (newR_len k) h32
            rw [newR_set h32] at h1
            have h2 : ((mapCells N (newR k) A (k - 32) cap).setIfInBounds (1 + k) (.int .i64 k))[33]? = some (.slice A (k - 32) cap) := by rw [Array.getElem?_setIfInBounds_ne (by omega)]; exact mapCells_free _ _ _ _ _ (newR_len k)
            have h3 : ((mapCells N (newR k) A (k - 32) cap).setIfInBounds (1 + k) (.int .i64 k)).setIfInBounds 33 (.slice A (k - 32) cap) = (mapCells N (newR k) A (k - 32) cap).setIfInBounds (1 + k) (.int .i64 k) := by
              apply Array.ext_getElem?
              intro i
              rw [Array.getElem?_setIfInBounds]
              split
              · rename_i e; subst e; rw [h2, if_pos (by rw [Array.size_setIfInBounds, mapCells_size _ _ _ _ _ (newR_len k)]; omega)]
              · rfl
            rw [← h3, h1]
            congr 1
            omega
          rw [hc9] at hB9
          have hR9 := hR.far (p := ⟨w.heap.size + 1, 1 + k, none⟩) (Nat.ne_of_lt (Nat.lt_succ_self _)) (.int .i64 k)
          have hb9 := hb.setCell (p := ⟨w.heap.size + 1, 1 + k, none⟩) (Nat.le_succ _) (.int .i64 k)
          have hown9 := hown.kept (grownBy_setCell wr ⟨w.heap.size + 1, 1 + k, none⟩ (.int .i64 k)) (by
            rcases hv : (Value.slice A (k - 32) cap).ownBlock with _ | b
            · exact Or.inl rfl
            · right; intro e; injection e with e; have := (hown.lt b hv).1; simp at e; omega)
          have hs9 : w.heap.size + 2 ≤ (wr.setCell ⟨w.heap.size + 1, 1 + k, none⟩ (.int .i64 k)).heap.size := by simpa using hs
          have e0 : k - 32 = k + 1 - 32 := by omega
          rw [e0] at hown9
          have HH := Lib.hid (And.intro hb9 (And.intro hR9 (And.intro hB9 (And.intro hown9 hs9))))
          clear hb9 hR9 hB9 hown9 hs9 hc9 hown hR hb e0
          go_wp2_with (fail)
          go_roundw
          case rel => exact ⟨k + 1, A, cap, by go_num, by omega, HH.out.1, HH.out.2.1, HH.out.2.2.1, by have := HH.out.2.2.2.1; exact this, HH.out.2.2.2.2⟩
          case measure => simp [intOf]; omega
        · have c33 := hB.cell 33
          rw [mapCells_free _ _ _ _ _ (newR_len k)] at c33
          have f33 := hB.frozen 33
          have hgt : decide ((k : Int) < 32) = false := by simp; omega
          have hRl := hR.lt
          clear hlt0
          go_wp2_with (refine wpList_append_any rfl (.tmp 26) (.tmp 28) 48 rfl (w.heap.size + 2) 3 i0 _ 1 8 Try.underlying48 hi hz0 hz1 hz2 rfl (by decide) (.slice A (k - 32) cap) (k - 32) _ rfl (hown.alloc _) (some ⟨wr.heap.size, 0, none⟩) 1 1 [.int .i64 k] rfl rfl (fun h => by cases h) (lit_one wr _ _) (by simp; rfl) (by unfold maxLen; omega) (by omega) (by simp; omega) ?_; intro v7 w7 hown7 hg7; have hB7 := (hB.alloc (.cells #[.int .i64 k] 3)).grown hg7 (fun h => by have := (hown.lt _ h.symm).1; omega); have hR7 := (hR.alloc (.cells #[.int .i64 k] 3)).grown hg7 (fun h => by have := (hown.lt _ h.symm).1; omega); have hb7 := (hb.alloc hb.size (.cells #[.int .i64 k] 3)).grown hg7 (by have := hb.size; simp; omega) (fun j hj => by have := (hown.lt _ hj).1; omega); have hs7 := hg7.size; simp only [World.size_alloc] at hs7; have c7 := hB7.cell 33; rw [mapCells_free _ _ _ _ _ (newR_len k)] at c7; have f7 := hB7.frozen 33; rw [show (free0 (k - 32)).map (Value.int .i64) ++ [.int .i64 (k : Int)] = (free0 (k + 1 - 32)).map (Value.int .i64) by rw [show k + 1 - 32 = (k - 32) + 1 by omega, free0_succ, List.map_append]; congr 3; omega, show k - 32 + 1 = k + 1 - 32 by omega] at hown7; obtain ⟨A7, cap7, rfl⟩ := own_value hown7; clear c33 f33 hg7)
          have hB9 := hB7.set 33 (.slice A7 (k + 1 - 32) cap7)
          have hb9 := hb7.setCell (p := ⟨w.heap.size + 1, 33, none⟩) (Nat.le_succ _) (.slice A7 (k + 1 - 32) cap7)
          have hR9 := hR7.far (p := ⟨w.heap.size + 1, 33, none⟩) (Nat.ne_of_lt (Nat.lt_succ_self _)) (.slice A7 (k + 1 - 32) cap7)
          have hown9 := hown7.kept (grownBy_setCell w7 ⟨w.heap.size + 1, 33, none⟩ (.slice A7 (k + 1 - 32) cap7)) (by
            rcases hv : (Value.slice A7 (k + 1 - 32) cap7).ownBlock with _ | b
            · exact Or.inl rfl
            · right; intro e; injection e with e; have := (hown7.lt b hv).1; simp at e; omega)
          have hs9 : w.heap.size + 2 ≤ (w7.setCell ⟨w.heap.size + 1, 33, none⟩ (.slice A7 (k + 1 - 32) cap7)).heap.size := by simp; omega
          have hc9 : (mapCells N (newR k) A (k - 32) cap).setIfInBounds 33 (.slice A7 (k + 1 - 32) cap7) = mapCells N (newR (k + 1)) A7 (k + 1 - 32) cap7 := by
            have h1 := mapCells_set N (newR k) A A7 (k - 32) cap (k + 1 - 32) cap7 0 ((newR k).getD 0 0) (newR_len k) (by omega)
            have e1 : (newR k).set 0 ((newR k).getD 0 0) = newR k := by
              have hl0 : 0 < (newR k).length := by rw [newR_len]; omega
              have : (newR k).getD 0 0 = (newR k)[0]'hl0 := by simp [List.getD, List.getElem?_eq_getElem hl0]
              rw [this, List.set_getElem_self]
            have e2 : (mapCells N (newR k) A (k - 32) cap).setIfInBounds (1 + 0) (.int .i64 ((newR k).getD 0 0)) = mapCells N (newR k) A (k - 32) cap := by
              have hr0 := mapCells_reg N (newR k) A (k - 32) cap (i := 0) (by rw [newR_len]; omega)
              apply Array.ext_getElem?
              intro i
              rw [Array.getElem?_setIfInBounds]
              split
              · rename_i e; subst e; rw [hr0, if_pos (by rw [mapCells_size _ _ _ _ _ (newR_len k)]; omega)]
              · rfl
            rw [e1, e2] at h1
            rw [h1, newR_all (by omega), newR_all (by omega)]
          rw [hc9] at hB9
          go_roundw
          case rel => exact ⟨k + 1, A7, cap7, by go_num, by omega, hb9, hR9, hB9, hown9, hs9⟩
          case measure => simp [intOf]; omega
      · obtain rfl : k = N := by omega
        rw [newR_all (by omega)] at hB
        have hl0 : regs0.length = 32 := by decide
        have hs9 := map_info (phys := k) (A := A) (n := k - 32) (cap := cap) hl0
        have h19 := map_one k regs0 A (k - 32) cap
        obtain ⟨cs9, h9⟩ : ∃ cs9, cs9 = mapCells k regs0 A (k - 32) cap := ⟨_, rfl⟩
        have Hv9 := Lib.hid h9
        have hsz9 : (mapCells k regs0 A (k - 32) cap).size = (mapCells 0 (List.replicate 32 0) none 0 0).size := by rw [mapCells_size _ _ _ _ _ hl0]; rfl
        rw [← h9] at hsz9 hs9 h19 hB
        have hno : decide ((k : Int) < k) = false := by simp
        clear h9
        go_wp2_with (first
          | (refine wpList_load_all rfl 50 _ rfl (w.heap.size + 1) rfl 50 cs9 _ hB Try.underlying50 rfl hs9 ?_)
          | (refine wpList_store_all rfl 50 _ _ rfl w.heap.size cs9 rfl rfl 50 _ hR hs9 hsz9 h19 ?_; intro wx hBx hgx; have hld := load_map hBx hs9))
        refine bodyPost_ret (results_ct Try.results25 rfl rfl hld) rfl ?_
        have hl1 : (free0 (k - 32)).length = k - 32 := by simp [free0]
        obtain ⟨A', cap', he, _, hn', hA', hc', hg'⟩ := own_ints hown
        cases he
        refine ⟨_, rfl, below_grown hb hgx hb.size (Nat.le_refl _), A, cap, by rw [Hv9.out]; show _ = Value.agg (mapCells k regs0 A (free0 (k - 32)).length cap); rw [hl1], ?_, fun ad h => by have := hg' ad h; omega⟩
        have hA10 := (hA'.grown (Nat.le_refl _) hgx (fun ad h => by have := hg' ad h; omega)).mono hgx.size
        refine ⟨by show _ ≤ (k : Int); omega, by show (k : Int) ≤ _; omega, hl0, by show (free0 (k - 32)).length ≤ _; omega, by show (free0 (k - 32)).length ≤ _; omega, hA10, hn', fun x hx => ?_⟩
        have hx' : x ∈ regs0 ++ free0 (k - 32) := hx
        rw [new_eq] at hx'
        obtain ⟨j, hj, rfl⟩ := List.mem_map.1 hx'
        have := List.mem_range.1 hj
        show _ ≤ (j : Int) ∧ (j : Int) ≤ _
        omega
  · rw [if_neg hok]
    have hnd : newD phys = RMap.zero := by unfold newD newP; rw [if_neg hok]; rfl
    have hok' : phys < 33 ∨ (33 ≤ phys ∧ 96 < phys) := by omega
    rw [hnd]
    clear hok hnd
    rcases hok' with h1 | ⟨h1, h2⟩
    ·
      go_enter Try.func25, Try.ntmps25
      go_upto_region 1 with (fail)
      go_simp
      refine wp_gen fun wa hq => ?_
      have hb2 : Below w.heap.size w wa := by rw [hq]; exact (Below.refl w.heap.size w).alloc (Nat.le_refl _) _
      have hR : Blk wa w.heap.size 50 (mapCells 0 (List.replicate 32 0) none 0 0) := by rw [hq]; exact Blk.new w 50 _
      clear hq
      go_wp2_with (first
        | (refine wpList_build_to rfl 50 _ rfl [] rfl _ built_map0 ?_)
        | (refine wpList_store_all rfl 50 _ _ rfl w.heap.size (mapCells 0 (List.replicate 32 0) none 0 0) rfl rfl 50 _ hR zero_info rfl (map_one _ _ _ _ _) ?_; intro w5 hB5 hg5; have hld := load_map hB5 zero_info))
      refine bodyPost_ret (results_ct Try.results25 rfl rfl hld) rfl ?_
      exact ⟨_, rfl, below_grown hb2 hg5 hb2.size (Nat.le_refl _), MapF.zero _ _⟩
    ·
      go_enter Try.func25, Try.ntmps25
      go_upto_region 1 with (fail)
      go_simp
      refine wp_gen fun wa hq => ?_
      have hb2 : Below w.heap.size w wa := by rw [hq]; exact (Below.refl w.heap.size w).alloc (Nat.le_refl _) _
      have hR : Blk wa w.heap.size 50 (mapCells 0 (List.replicate 32 0) none 0 0) := by rw [hq]; exact Blk.new w 50 _
      clear hq
      go_wp2_with (first
        | (refine wpList_build_to rfl 50 _ rfl [] rfl _ built_map0 ?_)
        | (refine wpList_store_all rfl 50 _ _ rfl w.heap.size (mapCells 0 (List.replicate 32 0) none 0 0) rfl rfl 50 _ hR zero_info rfl (map_one _ _ _ _ _) ?_; intro w5 hB5 hg5; have hld := load_map hB5 zero_info))
      refine bodyPost_ret (results_ct Try.results25 rfl rfl hld) rfl ?_
      exact ⟨_, rfl, below_grown hb2 hg5 hb2.size (Nat.le_refl _), MapF.zero _ _⟩
end Go.Proofs.Ytapgojgcmlnbgaa
