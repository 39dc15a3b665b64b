/- decode.Encode: what has no word by its fields. -/
import Derived.Test.YtapgojgcmlnbgabKHS915
import Derived.Test.YtapgojgcmlnbgabKHS902
import Derived.Test.YtapgojgcmlnbgabKHS904
import Derived.Test.YtapgojgcmlnbgabKHS930
set_option linter.unusedSimpArgs false
set_option linter.unusedVariables false

namespace Go.Proofs.Ytapgojgcmlnbgab
open Go.RowKit

set_option maxRecDepth 100000 in
set_option maxHeartbeats 1000000 in
theorem enc_bad (op rd rs1 rs2 imm : Int) (w : World) (hbad : (op < 1 ∨ 48 < op) ∨ rd < 0 ∨ 31 < rd ∨ rs1 < 0 ∨ 31 < rs1 ∨ rs2 < 0 ∨ 31 < rs2) :
    Calls Try.prog 31 #[.agg #[.int .i64 op, .int .i64 rd, .int .i64 rs1, .int .i64 rs2, .int .i32 imm]] w fun e w' => e = .returned (.tuple #[.int .u32 0, .int .i64 2]) ∧ Below w.heap.size w w' := by
  by_cases hop : op < 1 ∨ 48 < op
  · have CO := Lib.hid (fun W => dof_none op hop W)
    obtain ⟨K, hKd⟩ : ∃ K : Array Value, K = #[.int .i64 0, .int .u32 0, .int .u32 0, .int .u32 0] := ⟨_, rfl⟩
    rw [← hKd] at CO
    have kinf : (Try.prog.info? 83).map (·.size) = some K.size := by rw [hKd]; exact kind_info
    have kone : K.all (·.oneCell') = true := by rw [hKd]; exact kind_one
    have ksz : K.size = 4 := by rw [hKd]; rfl
    clear hKd hbad hop
    have ix0 : ∀ W, (Instr.index 95 (.agg #[.int .i64 rd, .int .i64 rs1, .int .i64 rs2]) (.int .i64 0)).run Try.prog W = .ok (.int .i64 rd) W := fun _ => by kernel_rfl
    have ix1 : ∀ W, (Instr.index 95 (.agg #[.int .i64 rd, .int .i64 rs1, .int .i64 rs2]) (.int .i64 1)).run Try.prog W = .ok (.int .i64 rs1) W := fun _ => by kernel_rfl
    have ix2 : ∀ W, (Instr.index 95 (.agg #[.int .i64 rd, .int .i64 rs1, .int .i64 rs2]) (.int .i64 2)).run Try.prog W = .ok (.int .i64 rs2) W := fun _ => by kernel_rfl
    have built3 : Try.prog.built 95 [(0, .int .i64 rd), (1, .int .i64 rs1), (2, .int .i64 rs2)] = some #[.int .i64 rd, .int .i64 rs1, .int .i64 rs2] := by kernel_rfl
    go_enter Try.func31, Try.ntmps31
    go_upto_region 1 with (fail)
    go_simp
    refine wp_gen fun wa hq => ?_
    have hI : Blk wa w.heap.size 40 #[.int .i64 op, .int .i64 rd, .int .i64 rs1, .int .i64 rs2, .int .i32 imm] := by rw [hq]; exact Blk.new w _ _
    have hbl : Below w.heap.size w wa := by rw [hq]; exact (Below.refl _ _).alloc (Nat.le_refl _) _
    clear hq
    have d0 : wa.cell? ⟨w.heap.size, 0, none⟩ = some (.int .i64 op) := hI.cell 0
    go_upto_region 2 with (first
      | (go_at_call 52; (with_reducible refine (CO.out _).mono ?_); rintro e w2 ⟨rfl, hb2⟩)
      | (refine wpList_store_all rfl 83 _ _ rfl w2.heap.size K rfl rfl 83 _ (Blk.new w2 _ _) kinf (by rw [ksz]; rfl) kone ?_; intro w3 hKb hg3))
    try go_simp
    have hzI := hI.lt
    have hz2 := hb2.size
    replace hI := ((hI.ext hb2).alloc (.cells #[.int .i64 0, .int .u32 0, .int .u32 0, .int .u32 0] 83)).grown hg3 (fun e => by injection e; omega)
    replace hbl := below_grown ((hbl.trans (hb2.mono hbl.size)).alloc (by have := hbl.size; omega) (.cells #[.int .i64 0, .int .u32 0, .int .u32 0, .int .u32 0] 83)) hg3 (by have := hbl.size; simp; omega) (by have := hbl.size; omega)
    clear d0 hb2 hg3 CO
    have d1 : w3.cell? ⟨w.heap.size, 1, none⟩ = some (.int .i64 rd) := hI.cell 1
    have d2 : w3.cell? ⟨w.heap.size, 2, none⟩ = some (.int .i64 rs1) := hI.cell 2
    have d3 : w3.cell? ⟨w.heap.size, 3, none⟩ = some (.int .i64 rs2) := hI.cell 3
    go_upto_region 3 with (refine wpList_build_to rfl 95 _ rfl [(0, .int .i64 rd), (1, .int .i64 rs1), (2, .int .i64 rs2)] rfl _ built3 ?_)
    try go_simp
    refine wp_loop_rounds 4 ?_
    repeat any_goals (rw [rounds_succ]; go_wp2)
    go_ret2
    exact ⟨rfl, hbl⟩
  · obtain ⟨k, hk, _⟩ := kind_ok op (by omega) (by omega)
    have CO := Lib.hid (fun W => dof_any op k hk W)
    obtain ⟨K, hKd⟩ : ∃ K : Array Value, K = k.cells := ⟨_, rfl⟩
    rw [← hKd] at CO
    have kinf : (Try.prog.info? 83).map (·.size) = some K.size := by rw [hKd]; exact kind_info
    have kone : K.all (·.oneCell') = true := by rw [hKd]; exact kind_one
    have ksz : K.size = 4 := by rw [hKd]; rfl
    clear hKd hk
    rcases (by simp only [decide_eq_true_eq, decide_eq_false_iff_not]; omega : (decide (0 ≤ rd) = false) ∨ (decide (0 ≤ rd) = true ∧ decide (rd < 32) = false) ∨ (decide (0 ≤ rd) = true ∧ decide (rd < 32) = true ∧ decide (0 ≤ rs1) = false) ∨ (decide (0 ≤ rd) = true ∧ decide (rd < 32) = true ∧ decide (0 ≤ rs1) = true ∧ decide (rs1 < 32) = false) ∨
        (decide (0 ≤ rd) = true ∧ decide (rd < 32) = true ∧ decide (0 ≤ rs1) = true ∧ decide (rs1 < 32) = true ∧ decide (0 ≤ rs2) = false) ∨ (decide (0 ≤ rd) = true ∧ decide (rd < 32) = true ∧ decide (0 ≤ rs1) = true ∧ decide (rs1 < 32) = true ∧ decide (0 ≤ rs2) = true ∧ decide (rs2 < 32) = false)) with t1 | ⟨t1, t2⟩ | ⟨t1, t2, t3⟩ | ⟨t1, t2, t3, t4⟩ | ⟨t1, t2, t3, t4, t5⟩ | ⟨t1, t2, t3, t4, t5, t6⟩
    all_goals
      clear hbad hop
      have ix0 : ∀ W, (Instr.index 95 (.agg #[.int .i64 rd, .int .i64 rs1, .int .i64 rs2]) (.int .i64 0)).run Try.prog W = .ok (.int .i64 rd) W := fun _ => by kernel_rfl
      have ix1 : ∀ W, (Instr.index 95 (.agg #[.int .i64 rd, .int .i64 rs1, .int .i64 rs2]) (.int .i64 1)).run Try.prog W = .ok (.int .i64 rs1) W := fun _ => by kernel_rfl
      have ix2 : ∀ W, (Instr.index 95 (.agg #[.int .i64 rd, .int .i64 rs1, .int .i64 rs2]) (.int .i64 2)).run Try.prog W = .ok (.int .i64 rs2) W := fun _ => by kernel_rfl
      have built3 : Try.prog.built 95 [(0, .int .i64 rd), (1, .int .i64 rs1), (2, .int .i64 rs2)] = some #[.int .i64 rd, .int .i64 rs1, .int .i64 rs2] := by kernel_rfl
      go_enter Try.func31, Try.ntmps31
      go_upto_region 1 with (fail)
      go_simp
      refine wp_gen fun wa hq => ?_
      have hI : Blk wa w.heap.size 40 #[.int .i64 op, .int .i64 rd, .int .i64 rs1, .int .i64 rs2, .int .i32 imm] := by rw [hq]; exact Blk.new w _ _
      have hbl : Below w.heap.size w wa := by rw [hq]; exact (Below.refl _ _).alloc (Nat.le_refl _) _
      clear hq
      have d0 : wa.cell? ⟨w.heap.size, 0, none⟩ = some (.int .i64 op) := hI.cell 0
      go_upto_region 2 with (first
        | (go_at_call 52; (with_reducible refine (CO.out _).mono ?_); rintro e w2 ⟨rfl, hb2⟩)
        | (refine wpList_store_all rfl 83 _ _ rfl w2.heap.size K rfl rfl 83 _ (Blk.new w2 _ _) kinf (by rw [ksz]; rfl) kone ?_; intro w3 hKb hg3))
      try go_simp
      have hzI := hI.lt
      have hz2 := hb2.size
      replace hI := ((hI.ext hb2).alloc (.cells #[.int .i64 0, .int .u32 0, .int .u32 0, .int .u32 0] 83)).grown hg3 (fun e => by injection e; omega)
      replace hbl := below_grown ((hbl.trans (hb2.mono hbl.size)).alloc (by have := hbl.size; omega) (.cells #[.int .i64 0, .int .u32 0, .int .u32 0, .int .u32 0] 83)) hg3 (by have := hbl.size; simp; omega) (by have := hbl.size; omega)
      clear d0 hb2 hg3 CO
      have d1 : w3.cell? ⟨w.heap.size, 1, none⟩ = some (.int .i64 rd) := hI.cell 1
      have d2 : w3.cell? ⟨w.heap.size, 2, none⟩ = some (.int .i64 rs1) := hI.cell 2
      have d3 : w3.cell? ⟨w.heap.size, 3, none⟩ = some (.int .i64 rs2) := hI.cell 3
      go_upto_region 3 with (refine wpList_build_to rfl 95 _ rfl [(0, .int .i64 rd), (1, .int .i64 rs1), (2, .int .i64 rs2)] rfl _ built3 ?_)
      try go_simp
      refine wp_loop_rounds 4 ?_
      repeat any_goals (rw [rounds_succ]; go_wp2)
      go_ret2
      exact ⟨rfl, hbl⟩
end Go.Proofs.Ytapgojgcmlnbgab
