/- decode.of at single operations. -/
import Derived.Test.YtapgojgcmlnbgabDecode2
namespace Go.Proofs.Ytapgojgcmlnbgab
open Go.RowKit

theorem of_33 (w : World) : Calls Try.prog 52 #[.int .i64 33] w fun e w' => e = .returned (.tuple #[.agg #[.int .i64 6, .int .u32 51, .int .u32 4, .int .u32 0], .bool true]) ∧ Below w.heap.size w w' := by
  have hbq := (((Below.refl w.heap.size w).alloc (Nat.le_refl _) (.cells #[.int .i64 33] 3)).alloc (by simp) (.cells #[.int .i64 0, .int .u32 0, .int .u32 0, .int .u32 0] 83)).alloc (by simp; omega) (.cells #[.int .u32 0, .int .u32 0, .int .u32 1, .int .u32 2, .int .u32 3, .int .u32 4, .int .u32 5, .int .u32 5, .int .u32 6, .int .u32 7] 36)
  go_enter Try.func52, Try.ntmps52
  go_wp2_with (go_at_call 77; (refine (up_any 33 28 6 51 4 w.heap.size (w.heap.size + 2) 10 _ ?_ ?_ ?_ ?_ ?_ ?_).mono ?_; decide; decide; decide; decide; go_simp; go_simp; rintro e w1 ⟨rfl, hb1⟩; have hR := ((Blk.newAt (w.alloc (.cells #[.int .i64 33] 3)) 83 #[.int .i64 0, .int .u32 0, .int .u32 0, .int .u32 0] (g := w.heap.size + 1) (by simp)).alloc _).ext hb1; have hRc := hR.cell; have hRf := hR.frozen))
  exact bodyPost_ret (v := .tuple #[.agg #[.int .i64 6, .int .u32 51, .int .u32 4, .int .u32 0], .bool true]) (by simp [results, Try.results52, go_sem, hRc]) rfl
    ⟨rfl, below_set (Nat.le_succ _) (below_set (Nat.le_succ _) (below_set (Nat.le_succ _) (below_set (Nat.le_succ _) (hbq.trans (hb1.mono (by simp; omega))))))⟩
theorem of_34 (w : World) : Calls Try.prog 52 #[.int .i64 34] w fun e w' => e = .returned (.tuple #[.agg #[.int .i64 6, .int .u32 51, .int .u32 5, .int .u32 0], .bool true]) ∧ Below w.heap.size w w' := by
  have hbq := (((Below.refl w.heap.size w).alloc (Nat.le_refl _) (.cells #[.int .i64 34] 3)).alloc (by simp) (.cells #[.int .i64 0, .int .u32 0, .int .u32 0, .int .u32 0] 83)).alloc (by simp; omega) (.cells #[.int .u32 0, .int .u32 0, .int .u32 1, .int .u32 2, .int .u32 3, .int .u32 4, .int .u32 5, .int .u32 5, .int .u32 6, .int .u32 7] 36)
  go_enter Try.func52, Try.ntmps52
  go_wp2_with (go_at_call 77; (refine (up_any 34 28 6 51 5 w.heap.size (w.heap.size + 2) 10 _ ?_ ?_ ?_ ?_ ?_ ?_).mono ?_; decide; decide; decide; decide; go_simp; go_simp; rintro e w1 ⟨rfl, hb1⟩; have hR := ((Blk.newAt (w.alloc (.cells #[.int .i64 34] 3)) 83 #[.int .i64 0, .int .u32 0, .int .u32 0, .int .u32 0] (g := w.heap.size + 1) (by simp)).alloc _).ext hb1; have hRc := hR.cell; have hRf := hR.frozen))
  exact bodyPost_ret (v := .tuple #[.agg #[.int .i64 6, .int .u32 51, .int .u32 5, .int .u32 0], .bool true]) (by simp [results, Try.results52, go_sem, hRc]) rfl
    ⟨rfl, below_set (Nat.le_succ _) (below_set (Nat.le_succ _) (below_set (Nat.le_succ _) (below_set (Nat.le_succ _) (hbq.trans (hb1.mono (by simp; omega))))))⟩
theorem of_35 (w : World) : Calls Try.prog 52 #[.int .i64 35] w fun e w' => e = .returned (.tuple #[.agg #[.int .i64 6, .int .u32 51, .int .u32 5, .int .u32 32], .bool true]) ∧ Below w.heap.size w w' := by
  go_enter Try.func52, Try.ntmps52
  go_wp2_with (fail)
  exact bodyPost_ret (v := .tuple #[.agg #[.int .i64 6, .int .u32 51, .int .u32 5, .int .u32 32], .bool true]) (by simp [results, Try.results52, go_sem]) rfl ⟨rfl, ((Below.refl _ _).alloc (Nat.le_refl _) _).alloc (by simp) _⟩
theorem of_36 (w : World) : Calls Try.prog 52 #[.int .i64 36] w fun e w' => e = .returned (.tuple #[.agg #[.int .i64 6, .int .u32 51, .int .u32 6, .int .u32 0], .bool true]) ∧ Below w.heap.size w w' := by
  have hbq := (((Below.refl w.heap.size w).alloc (Nat.le_refl _) (.cells #[.int .i64 36] 3)).alloc (by simp) (.cells #[.int .i64 0, .int .u32 0, .int .u32 0, .int .u32 0] 83)).alloc (by simp; omega) (.cells #[.int .u32 0, .int .u32 0, .int .u32 1, .int .u32 2, .int .u32 3, .int .u32 4, .int .u32 5, .int .u32 5, .int .u32 6, .int .u32 7] 36)
  go_enter Try.func52, Try.ntmps52
  go_wp2_with (go_at_call 77; (refine (up_any 36 28 6 51 6 w.heap.size (w.heap.size + 2) 10 _ ?_ ?_ ?_ ?_ ?_ ?_).mono ?_; decide; decide; decide; decide; go_simp; go_simp; rintro e w1 ⟨rfl, hb1⟩; have hR := ((Blk.newAt (w.alloc (.cells #[.int .i64 36] 3)) 83 #[.int .i64 0, .int .u32 0, .int .u32 0, .int .u32 0] (g := w.heap.size + 1) (by simp)).alloc _).ext hb1; have hRc := hR.cell; have hRf := hR.frozen))
  exact bodyPost_ret (v := .tuple #[.agg #[.int .i64 6, .int .u32 51, .int .u32 6, .int .u32 0], .bool true]) (by simp [results, Try.results52, go_sem, hRc]) rfl
    ⟨rfl, below_set (Nat.le_succ _) (below_set (Nat.le_succ _) (below_set (Nat.le_succ _) (below_set (Nat.le_succ _) (hbq.trans (hb1.mono (by simp; omega))))))⟩
theorem of_37 (w : World) : Calls Try.prog 52 #[.int .i64 37] w fun e w' => e = .returned (.tuple #[.agg #[.int .i64 6, .int .u32 51, .int .u32 7, .int .u32 0], .bool true]) ∧ Below w.heap.size w w' := by
  have hbq := (((Below.refl w.heap.size w).alloc (Nat.le_refl _) (.cells #[.int .i64 37] 3)).alloc (by simp) (.cells #[.int .i64 0, .int .u32 0, .int .u32 0, .int .u32 0] 83)).alloc (by simp; omega) (.cells #[.int .u32 0, .int .u32 0, .int .u32 1, .int .u32 2, .int .u32 3, .int .u32 4, .int .u32 5, .int .u32 5, .int .u32 6, .int .u32 7] 36)
  go_enter Try.func52, Try.ntmps52
  go_wp2_with (go_at_call 77; (refine (up_any 37 28 6 51 7 w.heap.size (w.heap.size + 2) 10 _ ?_ ?_ ?_ ?_ ?_ ?_).mono ?_; decide; decide; decide; decide; go_simp; go_simp; rintro e w1 ⟨rfl, hb1⟩; have hR := ((Blk.newAt (w.alloc (.cells #[.int .i64 37] 3)) 83 #[.int .i64 0, .int .u32 0, .int .u32 0, .int .u32 0] (g := w.heap.size + 1) (by simp)).alloc _).ext hb1; have hRc := hR.cell; have hRf := hR.frozen))
  exact bodyPost_ret (v := .tuple #[.agg #[.int .i64 6, .int .u32 51, .int .u32 7, .int .u32 0], .bool true]) (by simp [results, Try.results52, go_sem, hRc]) rfl
    ⟨rfl, below_set (Nat.le_succ _) (below_set (Nat.le_succ _) (below_set (Nat.le_succ _) (below_set (Nat.le_succ _) (hbq.trans (hb1.mono (by simp; omega))))))⟩
theorem of_38 (w : World) : Calls Try.prog 52 #[.int .i64 38] w fun e w' => e = .returned (.tuple #[.agg #[.int .i64 6, .int .u32 51, .int .u32 0, .int .u32 1], .bool true]) ∧ Below w.heap.size w w' := by
  go_enter Try.func52, Try.ntmps52
  go_wp2_with (fail)
  exact bodyPost_ret (v := .tuple #[.agg #[.int .i64 6, .int .u32 51, .int .u32 0, .int .u32 1], .bool true]) (by simp [results, Try.results52, go_sem]) rfl ⟨rfl, ((Below.refl _ _).alloc (Nat.le_refl _) _).alloc (by simp) _⟩
theorem of_39 (w : World) : Calls Try.prog 52 #[.int .i64 39] w fun e w' => e = .returned (.tuple #[.agg #[.int .i64 6, .int .u32 51, .int .u32 1, .int .u32 1], .bool true]) ∧ Below w.heap.size w w' := by
  go_enter Try.func52, Try.ntmps52
  go_wp2_with (fail)
  exact bodyPost_ret (v := .tuple #[.agg #[.int .i64 6, .int .u32 51, .int .u32 1, .int .u32 1], .bool true]) (by simp [results, Try.results52, go_sem]) rfl ⟨rfl, ((Below.refl _ _).alloc (Nat.le_refl _) _).alloc (by simp) _⟩
theorem of_40 (w : World) : Calls Try.prog 52 #[.int .i64 40] w fun e w' => e = .returned (.tuple #[.agg #[.int .i64 6, .int .u32 51, .int .u32 2, .int .u32 1], .bool true]) ∧ Below w.heap.size w w' := by
  go_enter Try.func52, Try.ntmps52
  go_wp2_with (fail)
  exact bodyPost_ret (v := .tuple #[.agg #[.int .i64 6, .int .u32 51, .int .u32 2, .int .u32 1], .bool true]) (by simp [results, Try.results52, go_sem]) rfl ⟨rfl, ((Below.refl _ _).alloc (Nat.le_refl _) _).alloc (by simp) _⟩
theorem of_41 (w : World) : Calls Try.prog 52 #[.int .i64 41] w fun e w' => e = .returned (.tuple #[.agg #[.int .i64 6, .int .u32 51, .int .u32 3, .int .u32 1], .bool true]) ∧ Below w.heap.size w w' := by
  go_enter Try.func52, Try.ntmps52
  go_wp2_with (fail)
  exact bodyPost_ret (v := .tuple #[.agg #[.int .i64 6, .int .u32 51, .int .u32 3, .int .u32 1], .bool true]) (by simp [results, Try.results52, go_sem]) rfl ⟨rfl, ((Below.refl _ _).alloc (Nat.le_refl _) _).alloc (by simp) _⟩
theorem of_42 (w : World) : Calls Try.prog 52 #[.int .i64 42] w fun e w' => e = .returned (.tuple #[.agg #[.int .i64 6, .int .u32 51, .int .u32 4, .int .u32 1], .bool true]) ∧ Below w.heap.size w w' := by
  go_enter Try.func52, Try.ntmps52
  go_wp2_with (fail)
  exact bodyPost_ret (v := .tuple #[.agg #[.int .i64 6, .int .u32 51, .int .u32 4, .int .u32 1], .bool true]) (by simp [results, Try.results52, go_sem]) rfl ⟨rfl, ((Below.refl _ _).alloc (Nat.le_refl _) _).alloc (by simp) _⟩
theorem of_43 (w : World) : Calls Try.prog 52 #[.int .i64 43] w fun e w' => e = .returned (.tuple #[.agg #[.int .i64 6, .int .u32 51, .int .u32 5, .int .u32 1], .bool true]) ∧ Below w.heap.size w w' := by
  go_enter Try.func52, Try.ntmps52
  go_wp2_with (fail)
  exact bodyPost_ret (v := .tuple #[.agg #[.int .i64 6, .int .u32 51, .int .u32 5, .int .u32 1], .bool true]) (by simp [results, Try.results52, go_sem]) rfl ⟨rfl, ((Below.refl _ _).alloc (Nat.le_refl _) _).alloc (by simp) _⟩
theorem of_44 (w : World) : Calls Try.prog 52 #[.int .i64 44] w fun e w' => e = .returned (.tuple #[.agg #[.int .i64 6, .int .u32 51, .int .u32 6, .int .u32 1], .bool true]) ∧ Below w.heap.size w w' := by
  go_enter Try.func52, Try.ntmps52
  go_wp2_with (fail)
  exact bodyPost_ret (v := .tuple #[.agg #[.int .i64 6, .int .u32 51, .int .u32 6, .int .u32 1], .bool true]) (by simp [results, Try.results52, go_sem]) rfl ⟨rfl, ((Below.refl _ _).alloc (Nat.le_refl _) _).alloc (by simp) _⟩
theorem of_45 (w : World) : Calls Try.prog 52 #[.int .i64 45] w fun e w' => e = .returned (.tuple #[.agg #[.int .i64 6, .int .u32 51, .int .u32 7, .int .u32 1], .bool true]) ∧ Below w.heap.size w w' := by
  go_enter Try.func52, Try.ntmps52
  go_wp2_with (fail)
  exact bodyPost_ret (v := .tuple #[.agg #[.int .i64 6, .int .u32 51, .int .u32 7, .int .u32 1], .bool true]) (by simp [results, Try.results52, go_sem]) rfl ⟨rfl, ((Below.refl _ _).alloc (Nat.le_refl _) _).alloc (by simp) _⟩
theorem of_46 (w : World) : Calls Try.prog 52 #[.int .i64 46] w fun e w' => e = .returned (.tuple #[.agg #[.int .i64 2, .int .u32 15, .int .u32 0, .int .u32 0], .bool true]) ∧ Below w.heap.size w w' := by
  go_enter Try.func52, Try.ntmps52
  go_wp2_with (fail)
  exact bodyPost_ret (v := .tuple #[.agg #[.int .i64 2, .int .u32 15, .int .u32 0, .int .u32 0], .bool true]) (by simp [results, Try.results52, go_sem]) rfl ⟨rfl, ((Below.refl _ _).alloc (Nat.le_refl _) _).alloc (by simp) _⟩
theorem of_47 (w : World) : Calls Try.prog 52 #[.int .i64 47] w fun e w' => e = .returned (.tuple #[.agg #[.int .i64 7, .int .u32 115, .int .u32 0, .int .u32 0], .bool true]) ∧ Below w.heap.size w w' := by
  go_enter Try.func52, Try.ntmps52
  go_wp2_with (fail)
  exact bodyPost_ret (v := .tuple #[.agg #[.int .i64 7, .int .u32 115, .int .u32 0, .int .u32 0], .bool true]) (by simp [results, Try.results52, go_sem]) rfl ⟨rfl, ((Below.refl _ _).alloc (Nat.le_refl _) _).alloc (by simp) _⟩
theorem of_48 (w : World) : Calls Try.prog 52 #[.int .i64 48] w fun e w' => e = .returned (.tuple #[.agg #[.int .i64 7, .int .u32 115, .int .u32 0, .int .u32 1], .bool true]) ∧ Below w.heap.size w w' := by
  go_enter Try.func52, Try.ntmps52
  go_wp2_with (fail)
  exact bodyPost_ret (v := .tuple #[.agg #[.int .i64 7, .int .u32 115, .int .u32 0, .int .u32 1], .bool true]) (by simp [results, Try.results52, go_sem]) rfl ⟨rfl, ((Below.refl _ _).alloc (Nat.le_refl _) _).alloc (by simp) _⟩
end Go.Proofs.Ytapgojgcmlnbgab
