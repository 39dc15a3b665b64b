/- The walks of package decode. -/
import Derived.Test.YtapgojgcmlnbgabProg
import Derived.Test.YtapgojgcmlnbgabKHS905
import Derived.Test.YtapgojgcmlnbgabKHS901
import Derived.Test.YtapgojgcmlnbgabKHS903
import Derived.Test.YtapgojgcmlnbgabKHS900
import Derived.Test.YtapgojgcmlnbgabKHS902
import Derived.WalkLawsBesides
import Derived.WalkSpells
import Derived.Lib.Hide
import Derived.Outline
import Derived.Deep.Cut
set_option linter.unusedSimpArgs false
set_option linter.unusedVariables false

namespace Go.Proofs.Ytapgojgcmlnbgab
open Go.RowKit

theorem cut_0_6 (x : Int) (w : World) (h0 : 0 ≤ x) (h1 : x ≤ 4294967295) :
    Calls Try.prog 65 #[.int .u32 x, .int .i64 0, .int .i64 6] w fun e w' => e = .returned (.int .u32 (cutI x 0 6)) ∧ Below w.heap.size w w' := by
  have HX := Lib.hid (cut_eq x 0 6 1 128 (by decide) (by decide))
  have hm := Lib.hid (show bits .and .u32 (x / 1) (128 - 1) = x / 1 % 128 from and_mask (x / 1) 7 (by omega) (by omega) (by omega))
  go_enter Try.func65, Try.ntmps65
  go_wp2
  refine wp_region_below (by kernel_rfl) (by kernel_rfl) ?_
  repeat' (first
    | refine wpMix_plain rfl ?_
    | (refine' wpMixW_quiet _ (fun wq hwq K hK => ?_) ?_ ?_
       rotate_left 1
       · (skip
          go_wp2_with (fail)
          all_goals exact hK _ hwq)
       · rfl)
    | (refine wpMix_guardT rfl rfl rfl ?_ ?_ <;> intro hc <;> first | (cases hc; done) | ((try cases hc); simp only [Act.put, List.setIfInBounds_toArray, List.set_cons_succ, List.set_cons_zero]))
    | (refine wpMix_guardF rfl rfl rfl ?_ ?_ <;> intro hc <;> first | (cases hc; done) | ((try cases hc); simp only [Act.put, List.setIfInBounds_toArray, List.set_cons_succ, List.set_cons_zero]))
    | refine wpMix_guardU rfl rfl rfl ?_)
  all_goals
    refine wpMix_nil ?_
    intro w4 hw4
    go_wp2
    go_ret
    refine ⟨?_, hw4⟩
    rw [HX.out]
    first | exact ret_int hm.out | exact ret_int (by simpa using hm.out)
theorem cut_12_14 (x : Int) (w : World) (h0 : 0 ≤ x) (h1 : x ≤ 4294967295) :
    Calls Try.prog 65 #[.int .u32 x, .int .i64 12, .int .i64 14] w fun e w' => e = .returned (.int .u32 (cutI x 12 14)) ∧ Below w.heap.size w w' := by
  have HX := Lib.hid (cut_eq x 12 14 4096 8 (by decide) (by decide))
  have hm := Lib.hid (show bits .and .u32 (x / 4096) (8 - 1) = x / 4096 % 8 from and_mask (x / 4096) 3 (by omega) (by omega) (by omega))
  go_enter Try.func65, Try.ntmps65
  go_wp2
  refine wp_region_below (by kernel_rfl) (by kernel_rfl) ?_
  repeat' (first
    | refine wpMix_plain rfl ?_
    | (refine' wpMixW_quiet _ (fun wq hwq K hK => ?_) ?_ ?_
       rotate_left 1
       · (skip
          go_wp2_with (fail)
          all_goals exact hK _ hwq)
       · rfl)
    | (refine wpMix_guardT rfl rfl rfl ?_ ?_ <;> intro hc <;> first | (cases hc; done) | ((try cases hc); simp only [Act.put, List.setIfInBounds_toArray, List.set_cons_succ, List.set_cons_zero]))
    | (refine wpMix_guardF rfl rfl rfl ?_ ?_ <;> intro hc <;> first | (cases hc; done) | ((try cases hc); simp only [Act.put, List.setIfInBounds_toArray, List.set_cons_succ, List.set_cons_zero]))
    | refine wpMix_guardU rfl rfl rfl ?_)
  all_goals
    refine wpMix_nil ?_
    intro w4 hw4
    go_wp2
    go_ret
    refine ⟨?_, hw4⟩
    rw [HX.out]
    first | exact ret_int hm.out | exact ret_int (by simpa using hm.out)
theorem cut_25_31 (x : Int) (w : World) (h0 : 0 ≤ x) (h1 : x ≤ 4294967295) :
    Calls Try.prog 65 #[.int .u32 x, .int .i64 25, .int .i64 31] w fun e w' => e = .returned (.int .u32 (cutI x 25 31)) ∧ Below w.heap.size w w' := by
  have HX := Lib.hid (cut_eq x 25 31 33554432 128 (by decide) (by decide))
  have hm := Lib.hid (show bits .and .u32 (x / 33554432) (128 - 1) = x / 33554432 % 128 from and_mask (x / 33554432) 7 (by omega) (by omega) (by omega))
  go_enter Try.func65, Try.ntmps65
  go_wp2
  refine wp_region_below (by kernel_rfl) (by kernel_rfl) ?_
  repeat' (first
    | refine wpMix_plain rfl ?_
    | (refine' wpMixW_quiet _ (fun wq hwq K hK => ?_) ?_ ?_
       rotate_left 1
       · (skip
          go_wp2_with (fail)
          all_goals exact hK _ hwq)
       · rfl)
    | (refine wpMix_guardT rfl rfl rfl ?_ ?_ <;> intro hc <;> first | (cases hc; done) | ((try cases hc); simp only [Act.put, List.setIfInBounds_toArray, List.set_cons_succ, List.set_cons_zero]))
    | (refine wpMix_guardF rfl rfl rfl ?_ ?_ <;> intro hc <;> first | (cases hc; done) | ((try cases hc); simp only [Act.put, List.setIfInBounds_toArray, List.set_cons_succ, List.set_cons_zero]))
    | refine wpMix_guardU rfl rfl rfl ?_)
  all_goals
    refine wpMix_nil ?_
    intro w4 hw4
    go_wp2
    go_ret
    refine ⟨?_, hw4⟩
    rw [HX.out]
    first | exact ret_int hm.out | exact ret_int (by simpa using hm.out)
theorem cut_7_11 (x : Int) (w : World) (h0 : 0 ≤ x) (h1 : x ≤ 4294967295) :
    Calls Try.prog 65 #[.int .u32 x, .int .i64 7, .int .i64 11] w fun e w' => e = .returned (.int .u32 (cutI x 7 11)) ∧ Below w.heap.size w w' := by
  have HX := Lib.hid (cut_eq x 7 11 128 32 (by decide) (by decide))
  have hm := Lib.hid (show bits .and .u32 (x / 128) (32 - 1) = x / 128 % 32 from and_mask (x / 128) 5 (by omega) (by omega) (by omega))
  go_enter Try.func65, Try.ntmps65
  go_wp2
  refine wp_region_below (by kernel_rfl) (by kernel_rfl) ?_
  repeat' (first
    | refine wpMix_plain rfl ?_
    | (refine' wpMixW_quiet _ (fun wq hwq K hK => ?_) ?_ ?_
       rotate_left 1
       · (skip
          go_wp2_with (fail)
          all_goals exact hK _ hwq)
       · rfl)
    | (refine wpMix_guardT rfl rfl rfl ?_ ?_ <;> intro hc <;> first | (cases hc; done) | ((try cases hc); simp only [Act.put, List.setIfInBounds_toArray, List.set_cons_succ, List.set_cons_zero]))
    | (refine wpMix_guardF rfl rfl rfl ?_ ?_ <;> intro hc <;> first | (cases hc; done) | ((try cases hc); simp only [Act.put, List.setIfInBounds_toArray, List.set_cons_succ, List.set_cons_zero]))
    | refine wpMix_guardU rfl rfl rfl ?_)
  all_goals
    refine wpMix_nil ?_
    intro w4 hw4
    go_wp2
    go_ret
    refine ⟨?_, hw4⟩
    rw [HX.out]
    first | exact ret_int hm.out | exact ret_int (by simpa using hm.out)
theorem cut_15_19 (x : Int) (w : World) (h0 : 0 ≤ x) (h1 : x ≤ 4294967295) :
    Calls Try.prog 65 #[.int .u32 x, .int .i64 15, .int .i64 19] w fun e w' => e = .returned (.int .u32 (cutI x 15 19)) ∧ Below w.heap.size w w' := by
  have HX := Lib.hid (cut_eq x 15 19 32768 32 (by decide) (by decide))
  have hm := Lib.hid (show bits .and .u32 (x / 32768) (32 - 1) = x / 32768 % 32 from and_mask (x / 32768) 5 (by omega) (by omega) (by omega))
  go_enter Try.func65, Try.ntmps65
  go_wp2
  refine wp_region_below (by kernel_rfl) (by kernel_rfl) ?_
  repeat' (first
    | refine wpMix_plain rfl ?_
    | (refine' wpMixW_quiet _ (fun wq hwq K hK => ?_) ?_ ?_
       rotate_left 1
       · (skip
          go_wp2_with (fail)
          all_goals exact hK _ hwq)
       · rfl)
    | (refine wpMix_guardT rfl rfl rfl ?_ ?_ <;> intro hc <;> first | (cases hc; done) | ((try cases hc); simp only [Act.put, List.setIfInBounds_toArray, List.set_cons_succ, List.set_cons_zero]))
    | (refine wpMix_guardF rfl rfl rfl ?_ ?_ <;> intro hc <;> first | (cases hc; done) | ((try cases hc); simp only [Act.put, List.setIfInBounds_toArray, List.set_cons_succ, List.set_cons_zero]))
    | refine wpMix_guardU rfl rfl rfl ?_)
  all_goals
    refine wpMix_nil ?_
    intro w4 hw4
    go_wp2
    go_ret
    refine ⟨?_, hw4⟩
    rw [HX.out]
    first | exact ret_int hm.out | exact ret_int (by simpa using hm.out)
theorem cut_20_24 (x : Int) (w : World) (h0 : 0 ≤ x) (h1 : x ≤ 4294967295) :
    Calls Try.prog 65 #[.int .u32 x, .int .i64 20, .int .i64 24] w fun e w' => e = .returned (.int .u32 (cutI x 20 24)) ∧ Below w.heap.size w w' := by
  have HX := Lib.hid (cut_eq x 20 24 1048576 32 (by decide) (by decide))
  have hm := Lib.hid (show bits .and .u32 (x / 1048576) (32 - 1) = x / 1048576 % 32 from and_mask (x / 1048576) 5 (by omega) (by omega) (by omega))
  go_enter Try.func65, Try.ntmps65
  go_wp2
  refine wp_region_below (by kernel_rfl) (by kernel_rfl) ?_
  repeat' (first
    | refine wpMix_plain rfl ?_
    | (refine' wpMixW_quiet _ (fun wq hwq K hK => ?_) ?_ ?_
       rotate_left 1
       · (skip
          go_wp2_with (fail)
          all_goals exact hK _ hwq)
       · rfl)
    | (refine wpMix_guardT rfl rfl rfl ?_ ?_ <;> intro hc <;> first | (cases hc; done) | ((try cases hc); simp only [Act.put, List.setIfInBounds_toArray, List.set_cons_succ, List.set_cons_zero]))
    | (refine wpMix_guardF rfl rfl rfl ?_ ?_ <;> intro hc <;> first | (cases hc; done) | ((try cases hc); simp only [Act.put, List.setIfInBounds_toArray, List.set_cons_succ, List.set_cons_zero]))
    | refine wpMix_guardU rfl rfl rfl ?_)
  all_goals
    refine wpMix_nil ?_
    intro w4 hw4
    go_wp2
    go_ret
    refine ⟨?_, hw4⟩
    rw [HX.out]
    first | exact ret_int hm.out | exact ret_int (by simpa using hm.out)
theorem cut_31_31 (x : Int) (w : World) (h0 : 0 ≤ x) (h1 : x ≤ 4294967295) :
    Calls Try.prog 65 #[.int .u32 x, .int .i64 31, .int .i64 31] w fun e w' => e = .returned (.int .u32 (cutI x 31 31)) ∧ Below w.heap.size w w' := by
  have HX := Lib.hid (cut_eq x 31 31 2147483648 2 (by decide) (by decide))
  have hm := Lib.hid (show bits .and .u32 (x / 2147483648) (2 - 1) = x / 2147483648 % 2 from and_mask (x / 2147483648) 1 (by omega) (by omega) (by omega))
  go_enter Try.func65, Try.ntmps65
  go_wp2
  refine wp_region_below (by kernel_rfl) (by kernel_rfl) ?_
  repeat' (first
    | refine wpMix_plain rfl ?_
    | (refine' wpMixW_quiet _ (fun wq hwq K hK => ?_) ?_ ?_
       rotate_left 1
       · (skip
          go_wp2_with (fail)
          all_goals exact hK _ hwq)
       · rfl)
    | (refine wpMix_guardT rfl rfl rfl ?_ ?_ <;> intro hc <;> first | (cases hc; done) | ((try cases hc); simp only [Act.put, List.setIfInBounds_toArray, List.set_cons_succ, List.set_cons_zero]))
    | (refine wpMix_guardF rfl rfl rfl ?_ ?_ <;> intro hc <;> first | (cases hc; done) | ((try cases hc); simp only [Act.put, List.setIfInBounds_toArray, List.set_cons_succ, List.set_cons_zero]))
    | refine wpMix_guardU rfl rfl rfl ?_)
  all_goals
    refine wpMix_nil ?_
    intro w4 hw4
    go_wp2
    go_ret
    refine ⟨?_, hw4⟩
    rw [HX.out]
    first | exact ret_int hm.out | exact ret_int (by simpa using hm.out)
theorem cut_12_19 (x : Int) (w : World) (h0 : 0 ≤ x) (h1 : x ≤ 4294967295) :
    Calls Try.prog 65 #[.int .u32 x, .int .i64 12, .int .i64 19] w fun e w' => e = .returned (.int .u32 (cutI x 12 19)) ∧ Below w.heap.size w w' := by
  have HX := Lib.hid (cut_eq x 12 19 4096 256 (by decide) (by decide))
  have hm := Lib.hid (show bits .and .u32 (x / 4096) (256 - 1) = x / 4096 % 256 from and_mask (x / 4096) 8 (by omega) (by omega) (by omega))
  go_enter Try.func65, Try.ntmps65
  go_wp2
  refine wp_region_below (by kernel_rfl) (by kernel_rfl) ?_
  repeat' (first
    | refine wpMix_plain rfl ?_
    | (refine' wpMixW_quiet _ (fun wq hwq K hK => ?_) ?_ ?_
       rotate_left 1
       · (skip
          go_wp2_with (fail)
          all_goals exact hK _ hwq)
       · rfl)
    | (refine wpMix_guardT rfl rfl rfl ?_ ?_ <;> intro hc <;> first | (cases hc; done) | ((try cases hc); simp only [Act.put, List.setIfInBounds_toArray, List.set_cons_succ, List.set_cons_zero]))
    | (refine wpMix_guardF rfl rfl rfl ?_ ?_ <;> intro hc <;> first | (cases hc; done) | ((try cases hc); simp only [Act.put, List.setIfInBounds_toArray, List.set_cons_succ, List.set_cons_zero]))
    | refine wpMix_guardU rfl rfl rfl ?_)
  all_goals
    refine wpMix_nil ?_
    intro w4 hw4
    go_wp2
    go_ret
    refine ⟨?_, hw4⟩
    rw [HX.out]
    first | exact ret_int hm.out | exact ret_int (by simpa using hm.out)
theorem cut_20_20 (x : Int) (w : World) (h0 : 0 ≤ x) (h1 : x ≤ 4294967295) :
    Calls Try.prog 65 #[.int .u32 x, .int .i64 20, .int .i64 20] w fun e w' => e = .returned (.int .u32 (cutI x 20 20)) ∧ Below w.heap.size w w' := by
  have HX := Lib.hid (cut_eq x 20 20 1048576 2 (by decide) (by decide))
  have hm := Lib.hid (show bits .and .u32 (x / 1048576) (2 - 1) = x / 1048576 % 2 from and_mask (x / 1048576) 1 (by omega) (by omega) (by omega))
  go_enter Try.func65, Try.ntmps65
  go_wp2
  refine wp_region_below (by kernel_rfl) (by kernel_rfl) ?_
  repeat' (first
    | refine wpMix_plain rfl ?_
    | (refine' wpMixW_quiet _ (fun wq hwq K hK => ?_) ?_ ?_
       rotate_left 1
       · (skip
          go_wp2_with (fail)
          all_goals exact hK _ hwq)
       · rfl)
    | (refine wpMix_guardT rfl rfl rfl ?_ ?_ <;> intro hc <;> first | (cases hc; done) | ((try cases hc); simp only [Act.put, List.setIfInBounds_toArray, List.set_cons_succ, List.set_cons_zero]))
    | (refine wpMix_guardF rfl rfl rfl ?_ ?_ <;> intro hc <;> first | (cases hc; done) | ((try cases hc); simp only [Act.put, List.setIfInBounds_toArray, List.set_cons_succ, List.set_cons_zero]))
    | refine wpMix_guardU rfl rfl rfl ?_)
  all_goals
    refine wpMix_nil ?_
    intro w4 hw4
    go_wp2
    go_ret
    refine ⟨?_, hw4⟩
    rw [HX.out]
    first | exact ret_int hm.out | exact ret_int (by simpa using hm.out)
theorem cut_21_30 (x : Int) (w : World) (h0 : 0 ≤ x) (h1 : x ≤ 4294967295) :
    Calls Try.prog 65 #[.int .u32 x, .int .i64 21, .int .i64 30] w fun e w' => e = .returned (.int .u32 (cutI x 21 30)) ∧ Below w.heap.size w w' := by
  have HX := Lib.hid (cut_eq x 21 30 2097152 1024 (by decide) (by decide))
  have hm := Lib.hid (show bits .and .u32 (x / 2097152) (1024 - 1) = x / 2097152 % 1024 from and_mask (x / 2097152) 10 (by omega) (by omega) (by omega))
  go_enter Try.func65, Try.ntmps65
  go_wp2
  refine wp_region_below (by kernel_rfl) (by kernel_rfl) ?_
  repeat' (first
    | refine wpMix_plain rfl ?_
    | (refine' wpMixW_quiet _ (fun wq hwq K hK => ?_) ?_ ?_
       rotate_left 1
       · (skip
          go_wp2_with (fail)
          all_goals exact hK _ hwq)
       · rfl)
    | (refine wpMix_guardT rfl rfl rfl ?_ ?_ <;> intro hc <;> first | (cases hc; done) | ((try cases hc); simp only [Act.put, List.setIfInBounds_toArray, List.set_cons_succ, List.set_cons_zero]))
    | (refine wpMix_guardF rfl rfl rfl ?_ ?_ <;> intro hc <;> first | (cases hc; done) | ((try cases hc); simp only [Act.put, List.setIfInBounds_toArray, List.set_cons_succ, List.set_cons_zero]))
    | refine wpMix_guardU rfl rfl rfl ?_)
  all_goals
    refine wpMix_nil ?_
    intro w4 hw4
    go_wp2
    go_ret
    refine ⟨?_, hw4⟩
    rw [HX.out]
    first | exact ret_int hm.out | exact ret_int (by simpa using hm.out)
theorem cut_20_31 (x : Int) (w : World) (h0 : 0 ≤ x) (h1 : x ≤ 4294967295) :
    Calls Try.prog 65 #[.int .u32 x, .int .i64 20, .int .i64 31] w fun e w' => e = .returned (.int .u32 (cutI x 20 31)) ∧ Below w.heap.size w w' := by
  have HX := Lib.hid (cut_eq x 20 31 1048576 4096 (by decide) (by decide))
  have hm := Lib.hid (show bits .and .u32 (x / 1048576) (4096 - 1) = x / 1048576 % 4096 from and_mask (x / 1048576) 12 (by omega) (by omega) (by omega))
  go_enter Try.func65, Try.ntmps65
  go_wp2
  refine wp_region_below (by kernel_rfl) (by kernel_rfl) ?_
  repeat' (first
    | refine wpMix_plain rfl ?_
    | (refine' wpMixW_quiet _ (fun wq hwq K hK => ?_) ?_ ?_
       rotate_left 1
       · (skip
          go_wp2_with (fail)
          all_goals exact hK _ hwq)
       · rfl)
    | (refine wpMix_guardT rfl rfl rfl ?_ ?_ <;> intro hc <;> first | (cases hc; done) | ((try cases hc); simp only [Act.put, List.setIfInBounds_toArray, List.set_cons_succ, List.set_cons_zero]))
    | (refine wpMix_guardF rfl rfl rfl ?_ ?_ <;> intro hc <;> first | (cases hc; done) | ((try cases hc); simp only [Act.put, List.setIfInBounds_toArray, List.set_cons_succ, List.set_cons_zero]))
    | refine wpMix_guardU rfl rfl rfl ?_)
  all_goals
    refine wpMix_nil ?_
    intro w4 hw4
    go_wp2
    go_ret
    refine ⟨?_, hw4⟩
    rw [HX.out]
    first | exact ret_int hm.out | exact ret_int (by simpa using hm.out)
theorem cut_7_7 (x : Int) (w : World) (h0 : 0 ≤ x) (h1 : x ≤ 4294967295) :
    Calls Try.prog 65 #[.int .u32 x, .int .i64 7, .int .i64 7] w fun e w' => e = .returned (.int .u32 (cutI x 7 7)) ∧ Below w.heap.size w w' := by
  have HX := Lib.hid (cut_eq x 7 7 128 2 (by decide) (by decide))
  have hm := Lib.hid (show bits .and .u32 (x / 128) (2 - 1) = x / 128 % 2 from and_mask (x / 128) 1 (by omega) (by omega) (by omega))
  go_enter Try.func65, Try.ntmps65
  go_wp2
  refine wp_region_below (by kernel_rfl) (by kernel_rfl) ?_
  repeat' (first
    | refine wpMix_plain rfl ?_
    | (refine' wpMixW_quiet _ (fun wq hwq K hK => ?_) ?_ ?_
       rotate_left 1
       · (skip
          go_wp2_with (fail)
          all_goals exact hK _ hwq)
       · rfl)
    | (refine wpMix_guardT rfl rfl rfl ?_ ?_ <;> intro hc <;> first | (cases hc; done) | ((try cases hc); simp only [Act.put, List.setIfInBounds_toArray, List.set_cons_succ, List.set_cons_zero]))
    | (refine wpMix_guardF rfl rfl rfl ?_ ?_ <;> intro hc <;> first | (cases hc; done) | ((try cases hc); simp only [Act.put, List.setIfInBounds_toArray, List.set_cons_succ, List.set_cons_zero]))
    | refine wpMix_guardU rfl rfl rfl ?_)
  all_goals
    refine wpMix_nil ?_
    intro w4 hw4
    go_wp2
    go_ret
    refine ⟨?_, hw4⟩
    rw [HX.out]
    first | exact ret_int hm.out | exact ret_int (by simpa using hm.out)
theorem cut_25_30 (x : Int) (w : World) (h0 : 0 ≤ x) (h1 : x ≤ 4294967295) :
    Calls Try.prog 65 #[.int .u32 x, .int .i64 25, .int .i64 30] w fun e w' => e = .returned (.int .u32 (cutI x 25 30)) ∧ Below w.heap.size w w' := by
  have HX := Lib.hid (cut_eq x 25 30 33554432 64 (by decide) (by decide))
  have hm := Lib.hid (show bits .and .u32 (x / 33554432) (64 - 1) = x / 33554432 % 64 from and_mask (x / 33554432) 6 (by omega) (by omega) (by omega))
  go_enter Try.func65, Try.ntmps65
  go_wp2
  refine wp_region_below (by kernel_rfl) (by kernel_rfl) ?_
  repeat' (first
    | refine wpMix_plain rfl ?_
    | (refine' wpMixW_quiet _ (fun wq hwq K hK => ?_) ?_ ?_
       rotate_left 1
       · (skip
          go_wp2_with (fail)
          all_goals exact hK _ hwq)
       · rfl)
    | (refine wpMix_guardT rfl rfl rfl ?_ ?_ <;> intro hc <;> first | (cases hc; done) | ((try cases hc); simp only [Act.put, List.setIfInBounds_toArray, List.set_cons_succ, List.set_cons_zero]))
    | (refine wpMix_guardF rfl rfl rfl ?_ ?_ <;> intro hc <;> first | (cases hc; done) | ((try cases hc); simp only [Act.put, List.setIfInBounds_toArray, List.set_cons_succ, List.set_cons_zero]))
    | refine wpMix_guardU rfl rfl rfl ?_)
  all_goals
    refine wpMix_nil ?_
    intro w4 hw4
    go_wp2
    go_ret
    refine ⟨?_, hw4⟩
    rw [HX.out]
    first | exact ret_int hm.out | exact ret_int (by simpa using hm.out)
theorem cut_8_11 (x : Int) (w : World) (h0 : 0 ≤ x) (h1 : x ≤ 4294967295) :
    Calls Try.prog 65 #[.int .u32 x, .int .i64 8, .int .i64 11] w fun e w' => e = .returned (.int .u32 (cutI x 8 11)) ∧ Below w.heap.size w w' := by
  have HX := Lib.hid (cut_eq x 8 11 256 16 (by decide) (by decide))
  have hm := Lib.hid (show bits .and .u32 (x / 256) (16 - 1) = x / 256 % 16 from and_mask (x / 256) 4 (by omega) (by omega) (by omega))
  go_enter Try.func65, Try.ntmps65
  go_wp2
  refine wp_region_below (by kernel_rfl) (by kernel_rfl) ?_
  repeat' (first
    | refine wpMix_plain rfl ?_
    | (refine' wpMixW_quiet _ (fun wq hwq K hK => ?_) ?_ ?_
       rotate_left 1
       · (skip
          go_wp2_with (fail)
          all_goals exact hK _ hwq)
       · rfl)
    | (refine wpMix_guardT rfl rfl rfl ?_ ?_ <;> intro hc <;> first | (cases hc; done) | ((try cases hc); simp only [Act.put, List.setIfInBounds_toArray, List.set_cons_succ, List.set_cons_zero]))
    | (refine wpMix_guardF rfl rfl rfl ?_ ?_ <;> intro hc <;> first | (cases hc; done) | ((try cases hc); simp only [Act.put, List.setIfInBounds_toArray, List.set_cons_succ, List.set_cons_zero]))
    | refine wpMix_guardU rfl rfl rfl ?_)
  all_goals
    refine wpMix_nil ?_
    intro w4 hw4
    go_wp2
    go_ret
    refine ⟨?_, hw4⟩
    rw [HX.out]
    first | exact ret_int hm.out | exact ret_int (by simpa using hm.out)
theorem cut_0_11 (x : Int) (w : World) (h0 : 0 ≤ x) (h1 : x ≤ 4294967295) :
    Calls Try.prog 65 #[.int .u32 x, .int .i64 0, .int .i64 11] w fun e w' => e = .returned (.int .u32 (cutI x 0 11)) ∧ Below w.heap.size w w' := by
  have HX := Lib.hid (cut_eq x 0 11 1 4096 (by decide) (by decide))
  have hm := Lib.hid (show bits .and .u32 (x / 1) (4096 - 1) = x / 1 % 4096 from and_mask (x / 1) 12 (by omega) (by omega) (by omega))
  go_enter Try.func65, Try.ntmps65
  go_wp2
  refine wp_region_below (by kernel_rfl) (by kernel_rfl) ?_
  repeat' (first
    | refine wpMix_plain rfl ?_
    | (refine' wpMixW_quiet _ (fun wq hwq K hK => ?_) ?_ ?_
       rotate_left 1
       · (skip
          go_wp2_with (fail)
          all_goals exact hK _ hwq)
       · rfl)
    | (refine wpMix_guardT rfl rfl rfl ?_ ?_ <;> intro hc <;> first | (cases hc; done) | ((try cases hc); simp only [Act.put, List.setIfInBounds_toArray, List.set_cons_succ, List.set_cons_zero]))
    | (refine wpMix_guardF rfl rfl rfl ?_ ?_ <;> intro hc <;> first | (cases hc; done) | ((try cases hc); simp only [Act.put, List.setIfInBounds_toArray, List.set_cons_succ, List.set_cons_zero]))
    | refine wpMix_guardU rfl rfl rfl ?_)
  all_goals
    refine wpMix_nil ?_
    intro w4 hw4
    go_wp2
    go_ret
    refine ⟨?_, hw4⟩
    rw [HX.out]
    first | exact ret_int hm.out | exact ret_int (by simpa using hm.out)
theorem cut_11_11 (x : Int) (w : World) (h0 : 0 ≤ x) (h1 : x ≤ 4294967295) :
    Calls Try.prog 65 #[.int .u32 x, .int .i64 11, .int .i64 11] w fun e w' => e = .returned (.int .u32 (cutI x 11 11)) ∧ Below w.heap.size w w' := by
  have HX := Lib.hid (cut_eq x 11 11 2048 2 (by decide) (by decide))
  have hm := Lib.hid (show bits .and .u32 (x / 2048) (2 - 1) = x / 2048 % 2 from and_mask (x / 2048) 1 (by omega) (by omega) (by omega))
  go_enter Try.func65, Try.ntmps65
  go_wp2
  refine wp_region_below (by kernel_rfl) (by kernel_rfl) ?_
  repeat' (first
    | refine wpMix_plain rfl ?_
    | (refine' wpMixW_quiet _ (fun wq hwq K hK => ?_) ?_ ?_
       rotate_left 1
       · (skip
          go_wp2_with (fail)
          all_goals exact hK _ hwq)
       · rfl)
    | (refine wpMix_guardT rfl rfl rfl ?_ ?_ <;> intro hc <;> first | (cases hc; done) | ((try cases hc); simp only [Act.put, List.setIfInBounds_toArray, List.set_cons_succ, List.set_cons_zero]))
    | (refine wpMix_guardF rfl rfl rfl ?_ ?_ <;> intro hc <;> first | (cases hc; done) | ((try cases hc); simp only [Act.put, List.setIfInBounds_toArray, List.set_cons_succ, List.set_cons_zero]))
    | refine wpMix_guardU rfl rfl rfl ?_)
  all_goals
    refine wpMix_nil ?_
    intro w4 hw4
    go_wp2
    go_ret
    refine ⟨?_, hw4⟩
    rw [HX.out]
    first | exact ret_int hm.out | exact ret_int (by simpa using hm.out)
theorem cut_1_10 (x : Int) (w : World) (h0 : 0 ≤ x) (h1 : x ≤ 4294967295) :
    Calls Try.prog 65 #[.int .u32 x, .int .i64 1, .int .i64 10] w fun e w' => e = .returned (.int .u32 (cutI x 1 10)) ∧ Below w.heap.size w w' := by
  have HX := Lib.hid (cut_eq x 1 10 2 1024 (by decide) (by decide))
  have hm := Lib.hid (show bits .and .u32 (x / 2) (1024 - 1) = x / 2 % 1024 from and_mask (x / 2) 10 (by omega) (by omega) (by omega))
  go_enter Try.func65, Try.ntmps65
  go_wp2
  refine wp_region_below (by kernel_rfl) (by kernel_rfl) ?_
  repeat' (first
    | refine wpMix_plain rfl ?_
    | (refine' wpMixW_quiet _ (fun wq hwq K hK => ?_) ?_ ?_
       rotate_left 1
       · (skip
          go_wp2_with (fail)
          all_goals exact hK _ hwq)
       · rfl)
    | (refine wpMix_guardT rfl rfl rfl ?_ ?_ <;> intro hc <;> first | (cases hc; done) | ((try cases hc); simp only [Act.put, List.setIfInBounds_toArray, List.set_cons_succ, List.set_cons_zero]))
    | (refine wpMix_guardF rfl rfl rfl ?_ ?_ <;> intro hc <;> first | (cases hc; done) | ((try cases hc); simp only [Act.put, List.setIfInBounds_toArray, List.set_cons_succ, List.set_cons_zero]))
    | refine wpMix_guardU rfl rfl rfl ?_)
  all_goals
    refine wpMix_nil ?_
    intro w4 hw4
    go_wp2
    go_ret
    refine ⟨?_, hw4⟩
    rw [HX.out]
    first | exact ret_int hm.out | exact ret_int (by simpa using hm.out)
theorem cut_0_4 (x : Int) (w : World) (h0 : 0 ≤ x) (h1 : x ≤ 4294967295) :
    Calls Try.prog 65 #[.int .u32 x, .int .i64 0, .int .i64 4] w fun e w' => e = .returned (.int .u32 (cutI x 0 4)) ∧ Below w.heap.size w w' := by
  have HX := Lib.hid (cut_eq x 0 4 1 32 (by decide) (by decide))
  have hm := Lib.hid (show bits .and .u32 (x / 1) (32 - 1) = x / 1 % 32 from and_mask (x / 1) 5 (by omega) (by omega) (by omega))
  go_enter Try.func65, Try.ntmps65
  go_wp2
  refine wp_region_below (by kernel_rfl) (by kernel_rfl) ?_
  repeat' (first
    | refine wpMix_plain rfl ?_
    | (refine' wpMixW_quiet _ (fun wq hwq K hK => ?_) ?_ ?_
       rotate_left 1
       · (skip
          go_wp2_with (fail)
          all_goals exact hK _ hwq)
       · rfl)
    | (refine wpMix_guardT rfl rfl rfl ?_ ?_ <;> intro hc <;> first | (cases hc; done) | ((try cases hc); simp only [Act.put, List.setIfInBounds_toArray, List.set_cons_succ, List.set_cons_zero]))
    | (refine wpMix_guardF rfl rfl rfl ?_ ?_ <;> intro hc <;> first | (cases hc; done) | ((try cases hc); simp only [Act.put, List.setIfInBounds_toArray, List.set_cons_succ, List.set_cons_zero]))
    | refine wpMix_guardU rfl rfl rfl ?_)
  all_goals
    refine wpMix_nil ?_
    intro w4 hw4
    go_wp2
    go_ret
    refine ⟨?_, hw4⟩
    rw [HX.out]
    first | exact ret_int hm.out | exact ret_int (by simpa using hm.out)
theorem cut_12_12 (x : Int) (w : World) (h0 : 0 ≤ x) (h1 : x ≤ 4294967295) :
    Calls Try.prog 65 #[.int .u32 x, .int .i64 12, .int .i64 12] w fun e w' => e = .returned (.int .u32 (cutI x 12 12)) ∧ Below w.heap.size w w' := by
  have HX := Lib.hid (cut_eq x 12 12 4096 2 (by decide) (by decide))
  have hm := Lib.hid (show bits .and .u32 (x / 4096) (2 - 1) = x / 4096 % 2 from and_mask (x / 4096) 1 (by omega) (by omega) (by omega))
  go_enter Try.func65, Try.ntmps65
  go_wp2
  refine wp_region_below (by kernel_rfl) (by kernel_rfl) ?_
  repeat' (first
    | refine wpMix_plain rfl ?_
    | (refine' wpMixW_quiet _ (fun wq hwq K hK => ?_) ?_ ?_
       rotate_left 1
       · (skip
          go_wp2_with (fail)
          all_goals exact hK _ hwq)
       · rfl)
    | (refine wpMix_guardT rfl rfl rfl ?_ ?_ <;> intro hc <;> first | (cases hc; done) | ((try cases hc); simp only [Act.put, List.setIfInBounds_toArray, List.set_cons_succ, List.set_cons_zero]))
    | (refine wpMix_guardF rfl rfl rfl ?_ ?_ <;> intro hc <;> first | (cases hc; done) | ((try cases hc); simp only [Act.put, List.setIfInBounds_toArray, List.set_cons_succ, List.set_cons_zero]))
    | refine wpMix_guardU rfl rfl rfl ?_)
  all_goals
    refine wpMix_nil ?_
    intro w4 hw4
    go_wp2
    go_ret
    refine ⟨?_, hw4⟩
    rw [HX.out]
    first | exact ret_int hm.out | exact ret_int (by simpa using hm.out)
theorem cut_5_10 (x : Int) (w : World) (h0 : 0 ≤ x) (h1 : x ≤ 4294967295) :
    Calls Try.prog 65 #[.int .u32 x, .int .i64 5, .int .i64 10] w fun e w' => e = .returned (.int .u32 (cutI x 5 10)) ∧ Below w.heap.size w w' := by
  have HX := Lib.hid (cut_eq x 5 10 32 64 (by decide) (by decide))
  have hm := Lib.hid (show bits .and .u32 (x / 32) (64 - 1) = x / 32 % 64 from and_mask (x / 32) 6 (by omega) (by omega) (by omega))
  go_enter Try.func65, Try.ntmps65
  go_wp2
  refine wp_region_below (by kernel_rfl) (by kernel_rfl) ?_
  repeat' (first
    | refine wpMix_plain rfl ?_
    | (refine' wpMixW_quiet _ (fun wq hwq K hK => ?_) ?_ ?_
       rotate_left 1
       · (skip
          go_wp2_with (fail)
          all_goals exact hK _ hwq)
       · rfl)
    | (refine wpMix_guardT rfl rfl rfl ?_ ?_ <;> intro hc <;> first | (cases hc; done) | ((try cases hc); simp only [Act.put, List.setIfInBounds_toArray, List.set_cons_succ, List.set_cons_zero]))
    | (refine wpMix_guardF rfl rfl rfl ?_ ?_ <;> intro hc <;> first | (cases hc; done) | ((try cases hc); simp only [Act.put, List.setIfInBounds_toArray, List.set_cons_succ, List.set_cons_zero]))
    | refine wpMix_guardU rfl rfl rfl ?_)
  all_goals
    refine wpMix_nil ?_
    intro w4 hw4
    go_wp2
    go_ret
    refine ⟨?_, hw4⟩
    rw [HX.out]
    first | exact ret_int hm.out | exact ret_int (by simpa using hm.out)
theorem cut_1_4 (x : Int) (w : World) (h0 : 0 ≤ x) (h1 : x ≤ 4294967295) :
    Calls Try.prog 65 #[.int .u32 x, .int .i64 1, .int .i64 4] w fun e w' => e = .returned (.int .u32 (cutI x 1 4)) ∧ Below w.heap.size w w' := by
  have HX := Lib.hid (cut_eq x 1 4 2 16 (by decide) (by decide))
  have hm := Lib.hid (show bits .and .u32 (x / 2) (16 - 1) = x / 2 % 16 from and_mask (x / 2) 4 (by omega) (by omega) (by omega))
  go_enter Try.func65, Try.ntmps65
  go_wp2
  refine wp_region_below (by kernel_rfl) (by kernel_rfl) ?_
  repeat' (first
    | refine wpMix_plain rfl ?_
    | (refine' wpMixW_quiet _ (fun wq hwq K hK => ?_) ?_ ?_
       rotate_left 1
       · (skip
          go_wp2_with (fail)
          all_goals exact hK _ hwq)
       · rfl)
    | (refine wpMix_guardT rfl rfl rfl ?_ ?_ <;> intro hc <;> first | (cases hc; done) | ((try cases hc); simp only [Act.put, List.setIfInBounds_toArray, List.set_cons_succ, List.set_cons_zero]))
    | (refine wpMix_guardF rfl rfl rfl ?_ ?_ <;> intro hc <;> first | (cases hc; done) | ((try cases hc); simp only [Act.put, List.setIfInBounds_toArray, List.set_cons_succ, List.set_cons_zero]))
    | refine wpMix_guardU rfl rfl rfl ?_)
  all_goals
    refine wpMix_nil ?_
    intro w4 hw4
    go_wp2
    go_ret
    refine ⟨?_, hw4⟩
    rw [HX.out]
    first | exact ret_int hm.out | exact ret_int (by simpa using hm.out)
theorem cut_5_11 (x : Int) (w : World) (h0 : 0 ≤ x) (h1 : x ≤ 4294967295) :
    Calls Try.prog 65 #[.int .u32 x, .int .i64 5, .int .i64 11] w fun e w' => e = .returned (.int .u32 (cutI x 5 11)) ∧ Below w.heap.size w w' := by
  have HX := Lib.hid (cut_eq x 5 11 32 128 (by decide) (by decide))
  have hm := Lib.hid (show bits .and .u32 (x / 32) (128 - 1) = x / 32 % 128 from and_mask (x / 32) 7 (by omega) (by omega) (by omega))
  go_enter Try.func65, Try.ntmps65
  go_wp2
  refine wp_region_below (by kernel_rfl) (by kernel_rfl) ?_
  repeat' (first
    | refine wpMix_plain rfl ?_
    | (refine' wpMixW_quiet _ (fun wq hwq K hK => ?_) ?_ ?_
       rotate_left 1
       · (skip
          go_wp2_with (fail)
          all_goals exact hK _ hwq)
       · rfl)
    | (refine wpMix_guardT rfl rfl rfl ?_ ?_ <;> intro hc <;> first | (cases hc; done) | ((try cases hc); simp only [Act.put, List.setIfInBounds_toArray, List.set_cons_succ, List.set_cons_zero]))
    | (refine wpMix_guardF rfl rfl rfl ?_ ?_ <;> intro hc <;> first | (cases hc; done) | ((try cases hc); simp only [Act.put, List.setIfInBounds_toArray, List.set_cons_succ, List.set_cons_zero]))
    | refine wpMix_guardU rfl rfl rfl ?_)
  all_goals
    refine wpMix_nil ?_
    intro w4 hw4
    go_wp2
    go_ret
    refine ⟨?_, hw4⟩
    rw [HX.out]
    first | exact ret_int hm.out | exact ret_int (by simpa using hm.out)
end Go.Proofs.Ytapgojgcmlnbgab
