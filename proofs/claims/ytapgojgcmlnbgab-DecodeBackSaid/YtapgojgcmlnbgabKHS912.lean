/- decode.of at single operations. -/
import Derived.Test.YtapgojgcmlnbgabKHS909
import Derived.Test.YtapgojgcmlnbgabKHS910
import Derived.Test.YtapgojgcmlnbgabKHS911
set_option linter.unusedSimpArgs false
set_option linter.unusedVariables false

namespace Go.Proofs.Ytapgojgcmlnbgab
open Go.RowKit

theorem of_33 (w : World) : Calls Try.prog 52 #[.int .i64 33] w fun e w' => e = .returned (.tuple #[.agg #[.int .i64 6, .int .u32 51, .int .u32 4, .int .u32 0], .bool true]) ∧ Below w.heap.size w w' := by
  have hbq := (((Below.refl w.heap.size w).alloc (Nat.le_refl _) (.cells #[.int .i64 33] 3)).alloc (by simp) (.cells #[.int .i64 0, .int .u32 0, .int .u32 0, .int .u32 0] 83)).alloc (by simp; omega) (.cells #[.int .u32 0, .int .u32 0, .int .u32 1, .int .u32 2, .int .u32 3, .int .u32 4, .int .u32 5, .int .u32 5, .int .u32 6, .int .u32 7] 36)
  go_enter Try.func52, Try.ntmps52
  go_wp2_with (go_at_call 77; (refine (up_any 33 28 6 51 4 w.heap.size (w.heap.size + 2) 10 _ ?_ ?_ ?_ ?_ ?_ ?_).mono ?_; decide; decide; decide; decide; go_simp; go_simp; rintro e w1 ⟨rfl, hb1⟩; have hR := ((Blk.newAt (w.alloc (.cells #[.int .i64 33] 3)) 83 #[.int .i64 0, .int .u32 0, .int .u32 0, .int .u32 0] (g := w.heap.size + 1) (by simp)).alloc _).ext hb1; have hRc := hR.cell; have hRf := hR.frozen))
  exact bodyPost_ret (v := .tuple #[.agg #[.int .i64 6, .int .u32 51, .int .u32 4, .int .u32 0], .bool true]) (by simp [results, Try.results52, go_sem, hRc]) rfl
    ⟨rfl, below_set (Nat.le_succ _) (below_set (Nat.le_succ _) (below_set (Nat.le_succ _) (below_set (Nat.le_succ _) (hbq.trans (hb1.mono (by simp; omega))))))⟩
theorem of_34 (w : World) : Calls Try.prog 52 #[.int .i64 34] w fun e w' => e = .returned (.tuple #[.agg #[.int .i64 6, .int .u32 51, .int .u32 5, .int .u32 0], .bool true]) ∧ Below w.heap.size w w' := by
  have hbq := (((Below.refl w.heap.size w).alloc (Nat.le_refl _) (.cells #[.int .i64 34] 3)).alloc (by simp) (.cells #[.int .i64 0, .int .u32 0, .int .u32 0, .int .u32 0] 83)).alloc (by simp; omega) (.cells #[.int .u32 0, .int .u32 0, .int .u32 1, .int .u32 2, .int .u32 3, .int .u32 4, .int .u32 5, .int .u32 5, .int .u32 6, .int .u32 7] 36)
  go_enter Try.func52, Try.ntmps52
  go_wp2_with (go_at_call 77; (refine (up_any 34 28 6 51 5 w.heap.size (w.heap.size + 2) 10 _ ?_ ?_ ?_ ?_ ?_ ?_).mono ?_; decide; decide; decide; decide; go_simp; go_simp; rintro e w1 ⟨rfl, hb1⟩; have hR := ((Blk.newAt (w.alloc (.cells #[.int .i64 34] 3)) 83 #[.int .i64 0, .int .u32 0, .int .u32 0, .int .u32 0] (g := w.heap.size + 1) (by simp)).alloc _).ext hb1; have hRc := hR.cell; have hRf := hR.frozen))
  exact bodyPost_ret (v := .tuple #[.agg #[.int .i64 6, .int .u32 51, .int .u32 5, .int .u32 0], .bool true]) (by simp [results, Try.results52, go_sem, hRc]) rfl
    ⟨rfl, below_set (Nat.le_succ _) (below_set (Nat.le_succ _) (below_set (Nat.le_succ _) (below_set (Nat.le_succ _) (hbq.trans (hb1.mono (by simp; omega))))))⟩
theorem of_35 (w : World) : Calls Try.prog 52 #[.int .i64 35] w fun e w' => e = .returned (.tuple #[.agg #[.int .i64 6, .int .u32 51, .int .u32 5, .int .u32 32], .bool true]) ∧ Below w.heap.size w w' := by
  go_enter Try.func52, Try.ntmps52
  go_wp2_with (fail)
  exact bodyPost_ret (v := .tuple #[.agg #[.int .i64 6, .int .u32 51, .int .u32 5, .int .u32 32], .bool true]) (by simp [results, Try.results52, go_sem]) rfl ⟨rfl, ((Below.refl _ _).alloc (Nat.le_refl _) _).alloc (by simp) _⟩
theorem of_36 (w : World) : Calls Try.prog 52 #[.int .i64 36] w fun e w' => e = .returned (.tuple #[.agg #[.int .i64 6, .int .u32 51, .int .u32 6, .int .u32 0], .bool true]) ∧ Below w.heap.size w w' := by
  have hbq := (((Below.refl w.heap.size w).alloc (Nat.le_refl _) (.cells #[.int .i64 36] 3)).alloc (by simp) (.cells #[.int .i64 0, .int .u32 0, .int .u32 0, .int .u32 0] 83)).alloc (by simp; omega) (.cells #[.int .u32 0, .int .u32 0, .int .u32 1, .int .u32 2, .int .u32 3, .int .u32 4, .int .u32 5, .int .u32 5, .int .u32 6, .int .u32 7] 36)
  go_enter Try.func52, Try.ntmps52
  go_wp2_with (go_at_call 77; (refine (up_any 36 28 6 51 6 w.heap.size (w.heap.size + 2) 10 _ ?_ ?_ ?_ ?_ ?_ ?_).mono ?_; decide; decide; decide; decide; go_simp; go_simp; rintro e w1 ⟨rfl, hb1⟩; have hR := ((Blk.newAt (w.alloc (.cells #[.int .i64 36] 3)) 83 #[.int .i64 0, .int .u32 0, .int .u32 0, .int .u32 0] (g := w.heap.size + 1) (by simp)).alloc _).ext hb1; have hRc := hR.cell; have hRf := hR.frozen))
  exact bodyPost_ret (v := .tuple #[.agg #[.int .i64 6, .int .u32 51, .int .u32 6, .int .u32 0], .bool true]) (by simp [results, Try.results52, go_sem, hRc]) rfl
    ⟨rfl, below_set (Nat.le_succ _) (below_set (Nat.le_succ _) (below_set (Nat.le_succ _) (below_set (Nat.le_succ _) (hbq.trans (hb1.mono (by simp; omega))))))⟩
theorem of_37 (w : World) : Calls Try.prog 52 #[.int .i64 37] w fun e w' => e = .returned (.tuple #[.agg #[.int .i64 6, .int .u32 51, .int .u32 7, .int .u32 0], .bool true]) ∧ Below w.heap.size w w' := by
  have hbq := (((Below.refl w.heap.size w).alloc (Nat.le_refl _) (.cells #[.int .i64 37] 3)).alloc (by simp) (.cells #[.int .i64 0, .int .u32 0, .int .u32 0, .int .u32 0] 83)).alloc (by simp; omega) (.cells #[.int .u32 0, .int .u32 0, .int .u32 1, .int .u32 2, .int .u32 3, .int .u32 4, .int .u32 5, .int .u32 5, .int .u32 6, .int .u32 7] 36)
  go_enter Try.func52, Try.ntmps52
  go_wp2_with (go_at_call 77; (refine (up_any 37 28 6 51 7 w.heap.size (w.heap.size + 2) 10 _ ?_ ?_ ?_ ?_ ?_ ?_).mono ?_; decide; decide; decide; decide; go_simp; go_simp; rintro e w1 ⟨rfl, hb1⟩; have hR := ((Blk.newAt (w.alloc (.cells #[.int .i64 37] 3)) 83 #[.int .i64 0, .int .u32 0, .int .u32 0, .int .u32 0] (g := w.heap.size + 1) (by simp)).alloc _).ext hb1; have hRc := hR.cell; have hRf := hR.frozen))
  exact bodyPost_ret (v := .tuple #[.agg #[.int .i64 6, .int .u32 51, .int .u32 7, .int .u32 0], .bool true]) (by simp [results, Try.results52, go_sem, hRc]) rfl
    ⟨rfl, below_set (Nat.le_succ _) (below_set (Nat.le_succ _) (below_set (Nat.le_succ _) (below_set (Nat.le_succ _) (hbq.trans (hb1.mono (by simp; omega))))))⟩
theorem of_38 (w : World) : Calls Try.prog 52 #[.int .i64 38] w fun e w' => e = .returned (.tuple #[.agg #[.int .i64 6, .int .u32 51, .int .u32 0, .int .u32 1], .bool true]) ∧ Below w.heap.size w w' := by
  go_enter Try.func52, Try.ntmps52
  go_wp2_with (fail)
  exact bodyPost_ret (v := .tuple #[.agg #[.int .i64 6, .int .u32 51, .int .u32 0, .int .u32 1], .bool true]) (by simp [results, Try.results52, go_sem]) rfl ⟨rfl, ((Below.refl _ _).alloc (Nat.le_refl _) _).alloc (by simp) _⟩
theorem of_39 (w : World) : Calls Try.prog 52 #[.int .i64 39] w fun e w' => e = .returned (.tuple #[.agg #[.int .i64 6, .int .u32 51, .int .u32 1, .int .u32 1], .bool true]) ∧ Below w.heap.size w w' := by
  go_enter Try.func52, Try.ntmps52
  go_wp2_with (fail)
  exact bodyPost_ret (v := .tuple #[.agg #[.int .i64 6, .int .u32 51, .int .u32 1, .int .u32 1], .bool true]) (by simp [results, Try.results52, go_sem]) rfl ⟨rfl, ((Below.refl _ _).alloc (Nat.le_refl _) _).alloc (by simp) _⟩
theorem of_40 (w : World) : Calls Try.prog 52 #[.int .i64 40] w fun e w' => e = .returned (.tuple #[.agg #[.int .i64 6, .int .u32 51, .int .u32 2, .int .u32 1], .bool true]) ∧ Below w.heap.size w w' := by
  go_enter Try.func52, Try.ntmps52
  go_wp2_with (fail)
  exact bodyPost_ret (v := .tuple #[.agg #[.int .i64 6, .int .u32 51, .int .u32 2, .int .u32 1], .bool true]) (by simp [results, Try.results52, go_sem]) rfl ⟨rfl, ((Below.refl _ _).alloc (Nat.le_refl _) _).alloc (by simp) _⟩
theorem of_41 (w : World) : Calls Try.prog 52 #[.int .i64 41] w fun e w' => e = .returned (.tuple #[.agg #[.int .i64 6, .int .u32 51, .int .u32 3, .int .u32 1], .bool true]) ∧ Below w.heap.size w w' := by
  go_enter Try.func52, Try.ntmps52
  go_wp2_with (fail)
  exact bodyPost_ret (v := .tuple #[.agg #[.int .i64 6, .int .u32 51, .int .u32 3, .int .u32 1], .bool true]) (by simp [results, Try.results52, go_sem]) rfl ⟨rfl, ((Below.refl _ _).alloc (Nat.le_refl _) _).alloc (by simp) _⟩
theorem of_42 (w : World) : Calls Try.prog 52 #[.int .i64 42] w fun e w' => e = .returned (.tuple #[.agg #[.int .i64 6, .int .u32 51, .int .u32 4, .int .u32 1], .bool true]) ∧ Below w.heap.size w w' := by
  go_enter Try.func52, Try.ntmps52
  go_wp2_with (fail)
  exact bodyPost_ret (v := .tuple #[.agg #[.int .i64 6, .int .u32 51, .int .u32 4, .int .u32 1], .bool true]) (by simp [results, Try.results52, go_sem]) rfl ⟨rfl, ((Below.refl _ _).alloc (Nat.le_refl _) _).alloc (by simp) _⟩
theorem of_43 (w : World) : Calls Try.prog 52 #[.int .i64 43] w fun e w' => e = .returned (.tuple #[.agg #[.int .i64 6, .int .u32 51, .int .u32 5, .int .u32 1], .bool true]) ∧ Below w.heap.size w w' := by
  go_enter Try.func52, Try.ntmps52
  go_wp2_with (fail)
  exact bodyPost_ret (v := .tuple #[.agg #[.int .i64 6, .int .u32 51, .int .u32 5, .int .u32 1], .bool true]) (by simp [results, Try.results52, go_sem]) rfl ⟨rfl, ((Below.refl _ _).alloc (Nat.le_refl _) _).alloc (by simp) _⟩
theorem of_44 (w : World) : Calls Try.prog 52 #[.int .i64 44] w fun e w' => e = .returned (.tuple #[.agg #[.int .i64 6, .int .u32 51, .int .u32 6, .int .u32 1], .bool true]) ∧ Below w.heap.size w w' := by
  go_enter Try.func52, Try.ntmps52
  go_wp2_with (fail)
  exact bodyPost_ret (v := .tuple #[.agg #[.int .i64 6, .int .u32 51, .int .u32 6, .int .u32 1], .bool true]) (by simp [results, Try.results52, go_sem]) rfl ⟨rfl, ((Below.refl _ _).alloc (Nat.le_refl _) _).alloc (by simp) _⟩
theorem of_45 (w : World) : Calls Try.prog 52 #[.int .i64 45] w fun e w' => e = .returned (.tuple #[.agg #[.int .i64 6, .int .u32 51, .int .u32 7, .int .u32 1], .bool true]) ∧ Below w.heap.size w w' := by
  go_enter Try.func52, Try.ntmps52
  go_wp2_with (fail)
  exact bodyPost_ret (v := .tuple #[.agg #[.int .i64 6, .int .u32 51, .int .u32 7, .int .u32 1], .bool true]) (by simp [results, Try.results52, go_sem]) rfl ⟨rfl, ((Below.refl _ _).alloc (Nat.le_refl _) _).alloc (by simp) _⟩
theorem of_46 (w : World) : Calls Try.prog 52 #[.int .i64 46] w fun e w' => e = .returned (.tuple #[.agg #[.int .i64 2, .int .u32 15, .int .u32 0, .int .u32 0], .bool true]) ∧ Below w.heap.size w w' := by
  go_enter Try.func52, Try.ntmps52
  go_wp2_with (fail)
  exact bodyPost_ret (v := .tuple #[.agg #[.int .i64 2, .int .u32 15, .int .u32 0, .int .u32 0], .bool true]) (by simp [results, Try.results52, go_sem]) rfl ⟨rfl, ((Below.refl _ _).alloc (Nat.le_refl _) _).alloc (by simp) _⟩
theorem of_47 (w : World) : Calls Try.prog 52 #[.int .i64 47] w fun e w' => e = .returned (.tuple #[.agg #[.int .i64 7, .int .u32 115, .int .u32 0, .int .u32 0], .bool true]) ∧ Below w.heap.size w w' := by
  go_enter Try.func52, Try.ntmps52
  go_wp2_with (fail)
  exact bodyPost_ret (v := .tuple #[.agg #[.int .i64 7, .int .u32 115, .int .u32 0, .int .u32 0], .bool true]) (by simp [results, Try.results52, go_sem]) rfl ⟨rfl, ((Below.refl _ _).alloc (Nat.le_refl _) _).alloc (by simp) _⟩
theorem of_48 (w : World) : Calls Try.prog 52 #[.int .i64 48] w fun e w' => e = .returned (.tuple #[.agg #[.int .i64 7, .int .u32 115, .int .u32 0, .int .u32 1], .bool true]) ∧ Below w.heap.size w w' := by
  go_enter Try.func52, Try.ntmps52
  go_wp2_with (fail)
  exact bodyPost_ret (v := .tuple #[.agg #[.int .i64 7, .int .u32 115, .int .u32 0, .int .u32 1], .bool true]) (by simp [results, Try.results52, go_sem]) rfl ⟨rfl, ((Below.refl _ _).alloc (Nat.le_refl _) _).alloc (by simp) _⟩
end Go.Proofs.Ytapgojgcmlnbgab

/- decode.of: every operation, known or not. -/
namespace Go.Proofs.Ytapgojgcmlnbgab
open Go.RowKit
abbrev Kind.cells (k : Kind) : Array Value := #[.int .i64 k.form, .int .u32 k.low, .int .u32 k.middle, .int .u32 k.upper]
theorem of_nat (n : Nat) (hn : n < 49) (k : Kind) (hk : kindP n = some k) (w : World) : Calls Try.prog 52 #[.int .i64 n] w fun e w' => e = .returned (.tuple #[.agg k.cells, .bool true]) ∧ Below w.heap.size w w' := by
  match n, hn with
  | 0, _ => have e : kindP ((0 : Nat) : Int) = none := rfl; rw [e] at hk; cases hk
  | 1, _ => obtain rfl : (⟨0, 55, 0, 0⟩ : Kind) = k := Option.some.inj hk; exact of_1 w
  | 2, _ => obtain rfl : (⟨0, 23, 0, 0⟩ : Kind) = k := Option.some.inj hk; exact of_2 w
  | 3, _ => obtain rfl : (⟨1, 111, 0, 0⟩ : Kind) = k := Option.some.inj hk; exact of_3 w
  | 4, _ => obtain rfl : (⟨2, 103, 0, 0⟩ : Kind) = k := Option.some.inj hk; exact of_4 w
  | 5, _ => obtain rfl : (⟨4, 99, 0, 0⟩ : Kind) = k := Option.some.inj hk; exact of_5 w
  | 6, _ => obtain rfl : (⟨4, 99, 1, 0⟩ : Kind) = k := Option.some.inj hk; exact of_6 w
  | 7, _ => obtain rfl : (⟨4, 99, 4, 0⟩ : Kind) = k := Option.some.inj hk; exact of_7 w
  | 8, _ => obtain rfl : (⟨4, 99, 5, 0⟩ : Kind) = k := Option.some.inj hk; exact of_8 w
  | 9, _ => obtain rfl : (⟨4, 99, 6, 0⟩ : Kind) = k := Option.some.inj hk; exact of_9 w
  | 10, _ => obtain rfl : (⟨4, 99, 7, 0⟩ : Kind) = k := Option.some.inj hk; exact of_10 w
  | 11, _ => obtain rfl : (⟨2, 3, 0, 0⟩ : Kind) = k := Option.some.inj hk; exact of_11 w
  | 12, _ => obtain rfl : (⟨2, 3, 1, 0⟩ : Kind) = k := Option.some.inj hk; exact of_12 w
  | 13, _ => obtain rfl : (⟨2, 3, 2, 0⟩ : Kind) = k := Option.some.inj hk; exact of_13 w
  | 14, _ => obtain rfl : (⟨2, 3, 4, 0⟩ : Kind) = k := Option.some.inj hk; exact of_14 w
  | 15, _ => obtain rfl : (⟨2, 3, 5, 0⟩ : Kind) = k := Option.some.inj hk; exact of_15 w
  | 16, _ => obtain rfl : (⟨5, 35, 0, 0⟩ : Kind) = k := Option.some.inj hk; exact of_16 w
  | 17, _ => obtain rfl : (⟨5, 35, 1, 0⟩ : Kind) = k := Option.some.inj hk; exact of_17 w
  | 18, _ => obtain rfl : (⟨5, 35, 2, 0⟩ : Kind) = k := Option.some.inj hk; exact of_18 w
  | 19, _ => obtain rfl : (⟨2, 19, 0, 0⟩ : Kind) = k := Option.some.inj hk; exact of_19 w
  | 20, _ => obtain rfl : (⟨2, 19, 2, 0⟩ : Kind) = k := Option.some.inj hk; exact of_20 w
  | 21, _ => obtain rfl : (⟨2, 19, 3, 0⟩ : Kind) = k := Option.some.inj hk; exact of_21 w
  | 22, _ => obtain rfl : (⟨2, 19, 4, 0⟩ : Kind) = k := Option.some.inj hk; exact of_22 w
  | 23, _ => obtain rfl : (⟨2, 19, 6, 0⟩ : Kind) = k := Option.some.inj hk; exact of_23 w
  | 24, _ => obtain rfl : (⟨2, 19, 7, 0⟩ : Kind) = k := Option.some.inj hk; exact of_24 w
  | 25, _ => obtain rfl : (⟨3, 19, 1, 0⟩ : Kind) = k := Option.some.inj hk; exact of_25 w
  | 26, _ => obtain rfl : (⟨3, 19, 5, 0⟩ : Kind) = k := Option.some.inj hk; exact of_26 w
  | 27, _ => obtain rfl : (⟨3, 19, 5, 32⟩ : Kind) = k := Option.some.inj hk; exact of_27 w
  | 28, _ => obtain rfl : (⟨6, 51, 0, 0⟩ : Kind) = k := Option.some.inj hk; exact of_28 w
  | 29, _ => obtain rfl : (⟨6, 51, 0, 32⟩ : Kind) = k := Option.some.inj hk; exact of_29 w
  | 30, _ => obtain rfl : (⟨6, 51, 1, 0⟩ : Kind) = k := Option.some.inj hk; exact of_30 w
  | 31, _ => obtain rfl : (⟨6, 51, 2, 0⟩ : Kind) = k := Option.some.inj hk; exact of_31 w
  | 32, _ => obtain rfl : (⟨6, 51, 3, 0⟩ : Kind) = k := Option.some.inj hk; exact of_32 w
  | 33, _ => obtain rfl : (⟨6, 51, 4, 0⟩ : Kind) = k := Option.some.inj hk; exact of_33 w
  | 34, _ => obtain rfl : (⟨6, 51, 5, 0⟩ : Kind) = k := Option.some.inj hk; exact of_34 w
  | 35, _ => obtain rfl : (⟨6, 51, 5, 32⟩ : Kind) = k := Option.some.inj hk; exact of_35 w
  | 36, _ => obtain rfl : (⟨6, 51, 6, 0⟩ : Kind) = k := Option.some.inj hk; exact of_36 w
  | 37, _ => obtain rfl : (⟨6, 51, 7, 0⟩ : Kind) = k := Option.some.inj hk; exact of_37 w
  | 38, _ => obtain rfl : (⟨6, 51, 0, 1⟩ : Kind) = k := Option.some.inj hk; exact of_38 w
  | 39, _ => obtain rfl : (⟨6, 51, 1, 1⟩ : Kind) = k := Option.some.inj hk; exact of_39 w
  | 40, _ => obtain rfl : (⟨6, 51, 2, 1⟩ : Kind) = k := Option.some.inj hk; exact of_40 w
  | 41, _ => obtain rfl : (⟨6, 51, 3, 1⟩ : Kind) = k := Option.some.inj hk; exact of_41 w
  | 42, _ => obtain rfl : (⟨6, 51, 4, 1⟩ : Kind) = k := Option.some.inj hk; exact of_42 w
  | 43, _ => obtain rfl : (⟨6, 51, 5, 1⟩ : Kind) = k := Option.some.inj hk; exact of_43 w
  | 44, _ => obtain rfl : (⟨6, 51, 6, 1⟩ : Kind) = k := Option.some.inj hk; exact of_44 w
  | 45, _ => obtain rfl : (⟨6, 51, 7, 1⟩ : Kind) = k := Option.some.inj hk; exact of_45 w
  | 46, _ => obtain rfl : (⟨2, 15, 0, 0⟩ : Kind) = k := Option.some.inj hk; exact of_46 w
  | 47, _ => obtain rfl : (⟨7, 115, 0, 0⟩ : Kind) = k := Option.some.inj hk; exact of_47 w
  | 48, _ => obtain rfl : (⟨7, 115, 0, 1⟩ : Kind) = k := Option.some.inj hk; exact of_48 w
theorem kindP_range {op : Int} {k : Kind} (hk : kindP op = some k) : 1 ≤ op ∧ op ≤ 48 := by
  rcases Int.lt_or_le op 1 with h1 | h1
  · exfalso
    unfold kindP at hk
    repeat rw [if_neg (by omega)] at hk
    cases hk
  · rcases Int.lt_or_le 48 op with h2 | h2
    · exfalso
      unfold kindP at hk
      repeat rw [if_neg (by omega)] at hk
      cases hk
    · exact ⟨h1, h2⟩
theorem dof_any (op : Int) (k : Kind) (hk : kindP op = some k) (w : World) : Calls Try.prog 52 #[.int .i64 op] w fun e w' => e = .returned (.tuple #[.agg k.cells, .bool true]) ∧ Below w.heap.size w w' := by
  obtain ⟨h1, h2⟩ := kindP_range hk
  obtain ⟨n, rfl⟩ := Int.eq_ofNat_of_zero_le (show 0 ≤ op by omega)
  exact of_nat n (by omega) k hk w
set_option maxRecDepth 100000 in
theorem dof_none (op : Int) (h : op < 1 ∨ 48 < op) (w : World) : Calls Try.prog 52 #[.int .i64 op] w fun e w' => e = .returned (.tuple #[.agg #[.int .i64 0, .int .u32 0, .int .u32 0, .int .u32 0], .bool false]) ∧ Below w.heap.size w w' := by
  have e1 : (op == 1) = false := by simp; omega
  have e2 : (op == 2) = false := by simp; omega
  have e3 : (op == 3) = false := by simp; omega
  have e4 : (op == 4) = false := by simp; omega
  have e25 : (op == 25) = false := by simp; omega
  have e26 : (op == 26) = false := by simp; omega
  have e27 : (op == 27) = false := by simp; omega
  have e29 : (op == 29) = false := by simp; omega
  have e35 : (op == 35) = false := by simp; omega
  have e46 : (op == 46) = false := by simp; omega
  have e47 : (op == 47) = false := by simp; omega
  have e48 : (op == 48) = false := by simp; omega
  rcases h with h | h
  · have d5 : decide (5 ≤ op) = false := by simp; omega
    have d11 : decide (11 ≤ op) = false := by simp; omega
    have d16 : decide (16 ≤ op) = false := by simp; omega
    have d19 : decide (19 ≤ op) = false := by simp; omega
    have d28 : decide (28 ≤ op) = false := by simp; omega
    have d38 : decide (38 ≤ op) = false := by simp; omega
    go_enter Try.func52, Try.ntmps52
    go_wp2_with (fail)
    exact bodyPost_ret (v := .tuple #[.agg #[.int .i64 0, .int .u32 0, .int .u32 0, .int .u32 0], .bool false]) (by simp [results, Try.results52, go_sem]) rfl ⟨rfl, ((Below.refl _ _).alloc (Nat.le_refl _) _).alloc (by simp) _⟩
  · have d5 : decide (5 ≤ op) = true := by simp; omega
    have d11 : decide (11 ≤ op) = true := by simp; omega
    have d16 : decide (16 ≤ op) = true := by simp; omega
    have d19 : decide (19 ≤ op) = true := by simp; omega
    have d28 : decide (28 ≤ op) = true := by simp; omega
    have d38 : decide (38 ≤ op) = true := by simp; omega
    have f10 : decide (op ≤ 10) = false := by simp; omega
    have f15 : decide (op ≤ 15) = false := by simp; omega
    have f18 : decide (op ≤ 18) = false := by simp; omega
    have f24 : decide (op ≤ 24) = false := by simp; omega
    have f37 : decide (op ≤ 37) = false := by simp; omega
    have f45 : decide (op ≤ 45) = false := by simp; omega
    go_enter Try.func52, Try.ntmps52
    go_wp2_with (fail)
    exact bodyPost_ret (v := .tuple #[.agg #[.int .i64 0, .int .u32 0, .int .u32 0, .int .u32 0], .bool false]) (by simp [results, Try.results52, go_sem]) rfl ⟨rfl, ((Below.refl _ _).alloc (Nat.le_refl _) _).alloc (by simp) _⟩
end Go.Proofs.Ytapgojgcmlnbgab
