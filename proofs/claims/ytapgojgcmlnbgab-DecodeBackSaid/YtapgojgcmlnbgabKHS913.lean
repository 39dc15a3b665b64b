/- The walks of package decode: tells, read. -/
import Derived.Test.YtapgojgcmlnbgabKHS912
set_option linter.unusedSimpArgs false
set_option linter.unusedVariables false

namespace Go.Proofs.Ytapgojgcmlnbgab
open Go.RowKit

theorem or_comm32 (a b : Int) (a0 : 0 ≤ a) (a1 : a ≤ 4294967295) (b0 : 0 ≤ b) (b1 : b ≤ 4294967295) : bits .or .u32 a b = bits .or .u32 b a := by
  obtain ⟨n, rfl⟩ := Int.eq_ofNat_of_zero_le a0
  obtain ⟨m, rfl⟩ := Int.eq_ofNat_of_zero_le b0
  rw [u32_or_nat n m (by omega) (by omega), u32_or_nat m n (by omega) (by omega), Nat.or_comm]
/-- High bits, then low ones. -/
theorem or_hi (x b : Int) (k : Nat) (K : Int) (hK : ((2 ^ k : Nat) : Int) = K) (hk : k ≤ 31) (hx0 : 0 ≤ x) (hx : x < K) (hb0 : 0 ≤ b) (hb : b * K < 4294967296) : bits .or .u32 (b * K) x = b * K + x := by
  subst hK
  have h := u32_or_shift x b k hk hx0 hx hb0 hb
  have p : (0 : Int) ≤ ((2 ^ k : Nat) : Int) := by omega
  have p2 : ((2 ^ k : Nat) : Int) ≤ ((2 ^ 31 : Nat) : Int) := by
    have := Nat.pow_le_pow_right (n := 2) (by omega) hk
    omega
  rw [or_comm32 _ _ (Int.mul_nonneg hb0 p) (by omega) hx0 (by have : ((2 ^ 31 : Nat) : Int) = 2147483648 := by decide
                                                              omega), h]
  omega
theorem or_lo (x b : Int) (k : Nat) (K : Int) (hK : ((2 ^ k : Nat) : Int) = K) (hk : k ≤ 31) (hx0 : 0 ≤ x) (hx : x < K) (hb0 : 0 ≤ b) (hb : b * K < 4294967296) : bits .or .u32 x (b * K) = x + b * K := by
  subst hK
  exact u32_or_shift x b k hk hx0 hx hb0 hb

set_option maxRecDepth 100000 in
set_option maxHeartbeats 1000000 in
theorem tells_any (k : Kind) (x : Int) (w : World) (h0 : 0 ≤ x) (h1 : x ≤ 4294967295) (l0 : 0 ≤ k.low) (l1 : k.low < 128) (u0 : 0 ≤ k.upper) (u1 : k.upper < 128) :
    Calls Try.prog 53 #[.agg k.cells, .int .u32 x] w fun e w' => e = .returned (.bool (tellsB k x)) ∧ Below w.heap.size w w' := by
  obtain ⟨form, low, mid, up⟩ := k
  dsimp only at l0 l1 u0 u1
  generalize hX : tellsB ⟨form, low, mid, up⟩ x = X
  have HX := Lib.hid hX
  clear hX
  by_cases hl : cutI x 0 6 = low
  · have el : (cutI x 0 6 != low) = false := by simp [hl]
    have Hl := Lib.hid hl
    clear hl
    by_cases f0 : form = 0
    · subst f0
      go_enter Try.func53, Try.ntmps53
      go_wp2
      have z1 : w.heap.size < (w.alloc (.cells #[.int .i64 0, .int .u32 low, .int .u32 mid, .int .u32 up] 83)).heap.size := by simp
      refine wp_region_below (by kernel_rfl) (by kernel_rfl) ?_
      repeat' (first
        | refine wpMix_plain rfl ?_
        | (refine' wpMixW_quiet _ (fun wq hwq K hK => ?_) ?_ ?_
           rotate_left 1
           · (obtain ⟨hcq, hfq⟩ := bcell hwq
              go_wp2_with ((go_at_call 65; (with_reducible refine (cut_0_6 x _ h0 h1).mono ?_); rintro e w1 ⟨rfl, hb1⟩; exact hK _ (hwq.trans (hb1.mono hwq.size))))
              all_goals exact hK _ hwq)
           · rfl)
        | (refine wpMix_guardT rfl rfl rfl ?_ ?_ <;> intro hc <;> first | (cases hc; done) | ((try cases hc); simp only [Act.put, List.setIfInBounds_toArray, List.set_cons_succ, List.set_cons_zero]))
        | (refine wpMix_guardF rfl rfl rfl ?_ ?_ <;> intro hc <;> first | (cases hc; done) | ((try cases hc); simp only [Act.put, List.setIfInBounds_toArray, List.set_cons_succ, List.set_cons_zero]))
        | refine wpMix_guardU rfl rfl rfl ?_)
      refine wpMix_nil ?_
      intro w4 hw4
      have hB := (Blk.new w 83 #[.int .i64 0, .int .u32 low, .int .u32 mid, .int .u32 up]).ext hw4
      have hBc := hB.cell
      have hBf := hB.frozen
      have hb4 : Below w.heap.size w w4 := ((Below.refl _ _).alloc (Nat.le_refl _) _).trans (hw4.mono (by simp))
      have z4 := hB.lt
      clear hw4 z1
      go_wp2
      go_ret
      refine ⟨ret_bool ?_, hb4⟩
      rw [← HX.out]
      unfold tellsB
      dsimp only
      rw [if_pos Hl.out, if_pos (.inl rfl)]
    by_cases f1 : form = 1
    · subst f1
      go_enter Try.func53, Try.ntmps53
      go_wp2
      have z1 : w.heap.size < (w.alloc (.cells #[.int .i64 1, .int .u32 low, .int .u32 mid, .int .u32 up] 83)).heap.size := by simp
      refine wp_region_below (by kernel_rfl) (by kernel_rfl) ?_
      repeat' (first
        | refine wpMix_plain rfl ?_
        | (refine' wpMixW_quiet _ (fun wq hwq K hK => ?_) ?_ ?_
           rotate_left 1
           · (obtain ⟨hcq, hfq⟩ := bcell hwq
              go_wp2_with ((go_at_call 65; (with_reducible refine (cut_0_6 x _ h0 h1).mono ?_); rintro e w1 ⟨rfl, hb1⟩; exact hK _ (hwq.trans (hb1.mono hwq.size))))
              all_goals exact hK _ hwq)
           · rfl)
        | (refine wpMix_guardT rfl rfl rfl ?_ ?_ <;> intro hc <;> first | (cases hc; done) | ((try cases hc); simp only [Act.put, List.setIfInBounds_toArray, List.set_cons_succ, List.set_cons_zero]))
        | (refine wpMix_guardF rfl rfl rfl ?_ ?_ <;> intro hc <;> first | (cases hc; done) | ((try cases hc); simp only [Act.put, List.setIfInBounds_toArray, List.set_cons_succ, List.set_cons_zero]))
        | refine wpMix_guardU rfl rfl rfl ?_)
      refine wpMix_nil ?_
      intro w4 hw4
      have hB := (Blk.new w 83 #[.int .i64 1, .int .u32 low, .int .u32 mid, .int .u32 up]).ext hw4
      have hBc := hB.cell
      have hBf := hB.frozen
      have hb4 : Below w.heap.size w w4 := ((Below.refl _ _).alloc (Nat.le_refl _) _).trans (hw4.mono (by simp))
      have z4 := hB.lt
      clear hw4 z1
      go_wp2
      go_ret
      refine ⟨ret_bool ?_, hb4⟩
      rw [← HX.out]
      unfold tellsB
      dsimp only
      rw [if_pos Hl.out, if_pos (.inr rfl)]
    have n0 : (form == 0) = false := by simp [f0]
    have n1 : (form == 1) = false := by simp [f1]
    by_cases f7 : form = 7
    · subst f7
      have ho := or_lo low up 20 1048576 (by decide) (by omega) l0 (by omega) u0 (by omega)
      have up1 : up * 1048576 % 4294967296 = up * 1048576 := Int.emod_eq_of_lt (by omega) (by omega)
      clear f0 f1 n0 n1
      go_enter Try.func53, Try.ntmps53
      go_wp2
      have z1 : w.heap.size < (w.alloc (.cells #[.int .i64 7, .int .u32 low, .int .u32 mid, .int .u32 up] 83)).heap.size := by simp
      refine wp_region_below (by kernel_rfl) (by kernel_rfl) ?_
      repeat' (first
        | refine wpMix_plain rfl ?_
        | (refine' wpMixW_quiet _ (fun wq hwq K hK => ?_) ?_ ?_
           rotate_left 1
           · (obtain ⟨hcq, hfq⟩ := bcell hwq
              go_wp2_with ((go_at_call 65; (with_reducible refine (cut_0_6 x _ h0 h1).mono ?_); rintro e w1 ⟨rfl, hb1⟩; exact hK _ (hwq.trans (hb1.mono hwq.size))))
              all_goals exact hK _ hwq)
           · rfl)
        | (refine wpMix_guardT rfl rfl rfl ?_ ?_ <;> intro hc <;> first | (cases hc; done) | ((try cases hc); simp only [Act.put, List.setIfInBounds_toArray, List.set_cons_succ, List.set_cons_zero]))
        | (refine wpMix_guardF rfl rfl rfl ?_ ?_ <;> intro hc <;> first | (cases hc; done) | ((try cases hc); simp only [Act.put, List.setIfInBounds_toArray, List.set_cons_succ, List.set_cons_zero]))
        | refine wpMix_guardU rfl rfl rfl ?_)
      refine wpMix_nil ?_
      intro w4 hw4
      have hB := (Blk.new w 83 #[.int .i64 7, .int .u32 low, .int .u32 mid, .int .u32 up]).ext hw4
      have hBc := hB.cell
      have hBf := hB.frozen
      have hb4 : Below w.heap.size w w4 := ((Below.refl _ _).alloc (Nat.le_refl _) _).trans (hw4.mono (by simp))
      have z4 := hB.lt
      clear hw4 z1
      go_wp2
      go_ret
      refine ⟨ret_bool ?_, hb4⟩
      rw [← HX.out]
      unfold tellsB
      dsimp only
      rw [if_pos Hl.out, if_neg (by decide), if_pos rfl]
      rw [Bool.eq_iff_iff]
      simp
    have n7 : (form == 7) = false := by simp [f7]
    by_cases f3 : form = 3
    · subst f3
      clear f0 f1 n0 n1 f7 n7
      go_enter Try.func53, Try.ntmps53
      go_wp2
      have z1 : w.heap.size < (w.alloc (.cells #[.int .i64 3, .int .u32 low, .int .u32 mid, .int .u32 up] 83)).heap.size := by simp
      refine wp_region_below (by kernel_rfl) (by kernel_rfl) ?_
      repeat' (first
        | refine wpMix_plain rfl ?_
        | (refine' wpMixW_quiet _ (fun wq hwq K hK => ?_) ?_ ?_
           rotate_left 1
           · (obtain ⟨hcq, hfq⟩ := bcell hwq
              go_wp2_with ((go_at_call 65; (with_reducible refine (cut_0_6 x _ h0 h1).mono ?_); rintro e w1 ⟨rfl, hb1⟩; exact hK _ (hwq.trans (hb1.mono hwq.size))))
              all_goals exact hK _ hwq)
           · rfl)
        | (refine wpMix_guardT rfl rfl rfl ?_ ?_ <;> intro hc <;> first | (cases hc; done) | ((try cases hc); simp only [Act.put, List.setIfInBounds_toArray, List.set_cons_succ, List.set_cons_zero]))
        | (refine wpMix_guardF rfl rfl rfl ?_ ?_ <;> intro hc <;> first | (cases hc; done) | ((try cases hc); simp only [Act.put, List.setIfInBounds_toArray, List.set_cons_succ, List.set_cons_zero]))
        | refine wpMix_guardU rfl rfl rfl ?_)
      refine wpMix_nil ?_
      intro w4 hw4
      have hB := (Blk.new w 83 #[.int .i64 3, .int .u32 low, .int .u32 mid, .int .u32 up]).ext hw4
      have hBc := hB.cell
      have hBf := hB.frozen
      have hb4 : Below w.heap.size w w4 := ((Below.refl _ _).alloc (Nat.le_refl _) _).trans (hw4.mono (by simp))
      have z4 := hB.lt
      clear hw4 z1
      go_upto_region 11 with (fail)
      refine wp_region_below (by kernel_rfl) (by kernel_rfl) ?_
      repeat' (first
        | refine wpMix_plain rfl ?_
        | (refine' wpMixW_quiet _ (fun wq hwq K hK => ?_) ?_ ?_
           rotate_left 1
           · (obtain ⟨hcq, hfq⟩ := bcell hwq
              go_wp2_with ((first | (go_at_call 65; (with_reducible refine (cut_12_14 x _ h0 h1).mono ?_); rintro e w1 ⟨rfl, hb1⟩; exact hK _ (hwq.trans (hb1.mono hwq.size))) | (go_at_call 65; (with_reducible refine (cut_25_31 x _ h0 h1).mono ?_); rintro e w1 ⟨rfl, hb1⟩; exact hK _ (hwq.trans (hb1.mono hwq.size)))))
              all_goals exact hK _ hwq)
           · rfl)
        | (refine wpMix_guardT rfl rfl rfl ?_ ?_ <;> intro hc <;> first | (cases hc; done) | ((try cases hc); simp only [Act.put, List.setIfInBounds_toArray, List.set_cons_succ, List.set_cons_zero]))
        | (refine wpMix_guardF rfl rfl rfl ?_ ?_ <;> intro hc <;> first | (cases hc; done) | ((try cases hc); simp only [Act.put, List.setIfInBounds_toArray, List.set_cons_succ, List.set_cons_zero]))
        | refine wpMix_guardU rfl rfl rfl ?_)
      all_goals
        refine wpMix_nil ?_
        intro w5 hw5
        go_wp2
        go_ret
        refine ⟨ret_bool ?_, hb4.trans (hw5.mono hb4.size)⟩
        rw [← HX.out]
        unfold tellsB
        dsimp only
      all_goals
        rw [if_pos Hl.out, if_neg (by decide), if_neg (by decide), if_pos (.inl rfl)]
        first | (have e := beq_iff_eq.1 hc; rw [Bool.eq_iff_iff]; simp [e]; done) | (have e := beq_eq_false_iff_ne.1 hc; simp [e])
    by_cases f6 : form = 6
    · subst f6
      clear f0 f1 n0 n1 f7 n7 f3
      go_enter Try.func53, Try.ntmps53
      go_wp2
      have z1 : w.heap.size < (w.alloc (.cells #[.int .i64 6, .int .u32 low, .int .u32 mid, .int .u32 up] 83)).heap.size := by simp
      refine wp_region_below (by kernel_rfl) (by kernel_rfl) ?_
      repeat' (first
        | refine wpMix_plain rfl ?_
        | (refine' wpMixW_quiet _ (fun wq hwq K hK => ?_) ?_ ?_
           rotate_left 1
           · (obtain ⟨hcq, hfq⟩ := bcell hwq
              go_wp2_with ((go_at_call 65; (with_reducible refine (cut_0_6 x _ h0 h1).mono ?_); rintro e w1 ⟨rfl, hb1⟩; exact hK _ (hwq.trans (hb1.mono hwq.size))))
              all_goals exact hK _ hwq)
           · rfl)
        | (refine wpMix_guardT rfl rfl rfl ?_ ?_ <;> intro hc <;> first | (cases hc; done) | ((try cases hc); simp only [Act.put, List.setIfInBounds_toArray, List.set_cons_succ, List.set_cons_zero]))
        | (refine wpMix_guardF rfl rfl rfl ?_ ?_ <;> intro hc <;> first | (cases hc; done) | ((try cases hc); simp only [Act.put, List.setIfInBounds_toArray, List.set_cons_succ, List.set_cons_zero]))
        | refine wpMix_guardU rfl rfl rfl ?_)
      refine wpMix_nil ?_
      intro w4 hw4
      have hB := (Blk.new w 83 #[.int .i64 6, .int .u32 low, .int .u32 mid, .int .u32 up]).ext hw4
      have hBc := hB.cell
      have hBf := hB.frozen
      have hb4 : Below w.heap.size w w4 := ((Below.refl _ _).alloc (Nat.le_refl _) _).trans (hw4.mono (by simp))
      have z4 := hB.lt
      clear hw4 z1
      go_upto_region 11 with (fail)
      refine wp_region_below (by kernel_rfl) (by kernel_rfl) ?_
      repeat' (first
        | refine wpMix_plain rfl ?_
        | (refine' wpMixW_quiet _ (fun wq hwq K hK => ?_) ?_ ?_
           rotate_left 1
           · (obtain ⟨hcq, hfq⟩ := bcell hwq
              go_wp2_with ((first | (go_at_call 65; (with_reducible refine (cut_12_14 x _ h0 h1).mono ?_); rintro e w1 ⟨rfl, hb1⟩; exact hK _ (hwq.trans (hb1.mono hwq.size))) | (go_at_call 65; (with_reducible refine (cut_25_31 x _ h0 h1).mono ?_); rintro e w1 ⟨rfl, hb1⟩; exact hK _ (hwq.trans (hb1.mono hwq.size)))))
              all_goals exact hK _ hwq)
           · rfl)
        | (refine wpMix_guardT rfl rfl rfl ?_ ?_ <;> intro hc <;> first | (cases hc; done) | ((try cases hc); simp only [Act.put, List.setIfInBounds_toArray, List.set_cons_succ, List.set_cons_zero]))
        | (refine wpMix_guardF rfl rfl rfl ?_ ?_ <;> intro hc <;> first | (cases hc; done) | ((try cases hc); simp only [Act.put, List.setIfInBounds_toArray, List.set_cons_succ, List.set_cons_zero]))
        | refine wpMix_guardU rfl rfl rfl ?_)
      all_goals
        refine wpMix_nil ?_
        intro w5 hw5
        go_wp2
        go_ret
        refine ⟨ret_bool ?_, hb4.trans (hw5.mono hb4.size)⟩
        rw [← HX.out]
        unfold tellsB
        dsimp only
      all_goals
        rw [if_pos Hl.out, if_neg (by decide), if_neg (by decide), if_pos (.inr rfl)]
        first | (have e := beq_iff_eq.1 hc; rw [Bool.eq_iff_iff]; simp [e]; done) | (have e := beq_eq_false_iff_ne.1 hc; simp [e])
    have n3 : (form == 3) = false := by simp [f3]
    have n6 : (form == 6) = false := by simp [f6]
    have Hf := Lib.hid (show ¬ (form = 0 ∨ form = 1) ∧ ¬ form = 7 ∧ ¬ (form = 3 ∨ form = 6) by omega)
    clear f0 f1 f7 f3 f6
    go_enter Try.func53, Try.ntmps53
    go_wp2
    have z1 : w.heap.size < (w.alloc (.cells #[.int .i64 form, .int .u32 low, .int .u32 mid, .int .u32 up] 83)).heap.size := by simp
    refine wp_region_below (by kernel_rfl) (by kernel_rfl) ?_
    repeat' (first
      | refine wpMix_plain rfl ?_
      | (refine' wpMixW_quiet _ (fun wq hwq K hK => ?_) ?_ ?_
         rotate_left 1
         · (obtain ⟨hcq, hfq⟩ := bcell hwq
            go_wp2_with ((go_at_call 65; (with_reducible refine (cut_0_6 x _ h0 h1).mono ?_); rintro e w1 ⟨rfl, hb1⟩; exact hK _ (hwq.trans (hb1.mono hwq.size))))
            all_goals exact hK _ hwq)
         · rfl)
      | (refine wpMix_guardT rfl rfl rfl ?_ ?_ <;> intro hc <;> first | (cases hc; done) | ((try cases hc); simp only [Act.put, List.setIfInBounds_toArray, List.set_cons_succ, List.set_cons_zero]))
      | (refine wpMix_guardF rfl rfl rfl ?_ ?_ <;> intro hc <;> first | (cases hc; done) | ((try cases hc); simp only [Act.put, List.setIfInBounds_toArray, List.set_cons_succ, List.set_cons_zero]))
      | refine wpMix_guardU rfl rfl rfl ?_)
    refine wpMix_nil ?_
    intro w4 hw4
    have hB := (Blk.new w 83 #[.int .i64 form, .int .u32 low, .int .u32 mid, .int .u32 up]).ext hw4
    have hBc := hB.cell
    have hBf := hB.frozen
    have hb4 : Below w.heap.size w w4 := ((Below.refl _ _).alloc (Nat.le_refl _) _).trans (hw4.mono (by simp))
    have z4 := hB.lt
    clear hw4 z1
    go_upto_region 12 with (fail)
    refine wp_region_below (by kernel_rfl) (by kernel_rfl) ?_
    repeat' (first
      | refine wpMix_plain rfl ?_
      | (refine' wpMixW_quiet _ (fun wq hwq K hK => ?_) ?_ ?_
         rotate_left 1
         · (obtain ⟨hcq, hfq⟩ := bcell hwq
            go_wp2_with ((first | (go_at_call 65; (with_reducible refine (cut_12_14 x _ h0 h1).mono ?_); rintro e w1 ⟨rfl, hb1⟩; exact hK _ (hwq.trans (hb1.mono hwq.size))) | (go_at_call 65; (with_reducible refine (cut_25_31 x _ h0 h1).mono ?_); rintro e w1 ⟨rfl, hb1⟩; exact hK _ (hwq.trans (hb1.mono hwq.size)))))
            all_goals exact hK _ hwq)
         · rfl)
      | (refine wpMix_guardT rfl rfl rfl ?_ ?_ <;> intro hc <;> first | (cases hc; done) | ((try cases hc); simp only [Act.put, List.setIfInBounds_toArray, List.set_cons_succ, List.set_cons_zero]))
      | (refine wpMix_guardF rfl rfl rfl ?_ ?_ <;> intro hc <;> first | (cases hc; done) | ((try cases hc); simp only [Act.put, List.setIfInBounds_toArray, List.set_cons_succ, List.set_cons_zero]))
      | refine wpMix_guardU rfl rfl rfl ?_)
    all_goals
      refine wpMix_nil ?_
      intro w5 hw5
      go_wp2
      go_ret
      refine ⟨ret_bool ?_, hb4.trans (hw5.mono hb4.size)⟩
      rw [← HX.out]
      unfold tellsB
      dsimp only
    rw [if_pos Hl.out, if_neg Hf.out.1, if_neg Hf.out.2.1, if_neg Hf.out.2.2]
    rw [Bool.eq_iff_iff]
    simp
  · have el : (cutI x 0 6 != low) = true := by simp [hl]
    have Hl := Lib.hid hl
    clear hl
    go_enter Try.func53, Try.ntmps53
    go_wp2
    have z1 : w.heap.size < (w.alloc (.cells #[.int .i64 form, .int .u32 low, .int .u32 mid, .int .u32 up] 83)).heap.size := by simp
    refine wp_region_below (by kernel_rfl) (by kernel_rfl) ?_
    repeat' (first
      | refine wpMix_plain rfl ?_
      | (refine' wpMixW_quiet _ (fun wq hwq K hK => ?_) ?_ ?_
         rotate_left 1
         · (obtain ⟨hcq, hfq⟩ := bcell hwq
            go_wp2_with ((go_at_call 65; (with_reducible refine (cut_0_6 x _ h0 h1).mono ?_); rintro e w1 ⟨rfl, hb1⟩; exact hK _ (hwq.trans (hb1.mono hwq.size))))
            all_goals exact hK _ hwq)
         · rfl)
      | (refine wpMix_guardT rfl rfl rfl ?_ ?_ <;> intro hc <;> first | (cases hc; done) | ((try cases hc); simp only [Act.put, List.setIfInBounds_toArray, List.set_cons_succ, List.set_cons_zero]))
      | (refine wpMix_guardF rfl rfl rfl ?_ ?_ <;> intro hc <;> first | (cases hc; done) | ((try cases hc); simp only [Act.put, List.setIfInBounds_toArray, List.set_cons_succ, List.set_cons_zero]))
      | refine wpMix_guardU rfl rfl rfl ?_)
    refine wpMix_nil ?_
    intro w4 hw4
    have hB := (Blk.new w 83 #[.int .i64 form, .int .u32 low, .int .u32 mid, .int .u32 up]).ext hw4
    have hBc := hB.cell
    have hBf := hB.frozen
    have hb4 : Below w.heap.size w w4 := ((Below.refl _ _).alloc (Nat.le_refl _) _).trans (hw4.mono (by simp))
    have z4 := hB.lt
    clear hw4 z1
    go_wp2
    go_ret
    refine ⟨ret_bool ?_, hb4⟩
    rw [← HX.out]
    unfold tellsB
    dsimp only
    rw [if_neg Hl.out]
end Go.Proofs.Ytapgojgcmlnbgab
