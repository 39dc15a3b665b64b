/- The walks of the document's answer for decode: Cut, signed, pick. -/
import Derived.Test.YtapgojgcmlnbgabKHS915
import Derived.Test.YtapgojgcmlnbgabKHS925
import Derived.LoopTactic
set_option linter.unusedSimpArgs false
set_option linter.unusedVariables false

namespace Go.Proofs.Ytapgojgcmlnbgab
open Go.RowKit

theorem power_lit (x : Int) (K : Int) (w : World) (h0 : 0 ≤ x) (h1 : x ≤ 61) (hK : ((2 ^ x.toNat : Nat) : Int) = K) :
    Calls Try.prog 61 #[.int .i64 x] w fun e w' => e = .returned (.int .i64 K) ∧ w = w' := by
  subst hK
  obtain ⟨k, rfl⟩ := Int.eq_ofNat_of_zero_le h0
  exact power_any k w (by omega)
theorem rcut_0_6 (x : Int) (w : World) (h0 : 0 ≤ x) (h1 : x ≤ 4294967295) :
    Calls Try.prog 56 #[.int .u32 x, .int .i64 0, .int .i64 6] w fun e w' => e = .returned (.int .i64 (cutI x 0 6)) ∧ w = w' := by
  have HX := Lib.hid (cut_eq x 0 6 1 128 (by decide) (by decide))
  go_enter Try.func56, Try.ntmps56
  go_wp2_with (first
    | (go_at_call 61; (with_reducible refine (power_lit 0 1 _ (by decide) (by decide) (by decide)).mono ?_); rintro e w1 ⟨rfl, rfl⟩)
    | (go_at_call 61; (with_reducible refine (power_lit 7 128 _ (by decide) (by decide) (by decide)).mono ?_); rintro e w1 ⟨rfl, rfl⟩))
  go_ret
  refine ⟨?_, rfl⟩
  rw [HX.out]
  refine ret_int ?_
  first | rfl | (show x / 1 = x / 1 % 128; omega) | (show x % 128 = x / 1 % 128; omega)
theorem rcut_12_14 (x : Int) (w : World) (h0 : 0 ≤ x) (h1 : x ≤ 4294967295) :
    Calls Try.prog 56 #[.int .u32 x, .int .i64 12, .int .i64 14] w fun e w' => e = .returned (.int .i64 (cutI x 12 14)) ∧ w = w' := by
  have HX := Lib.hid (cut_eq x 12 14 4096 8 (by decide) (by decide))
  go_enter Try.func56, Try.ntmps56
  go_wp2_with (first
    | (go_at_call 61; (with_reducible refine (power_lit 12 4096 _ (by decide) (by decide) (by decide)).mono ?_); rintro e w1 ⟨rfl, rfl⟩)
    | (go_at_call 61; (with_reducible refine (power_lit 3 8 _ (by decide) (by decide) (by decide)).mono ?_); rintro e w1 ⟨rfl, rfl⟩))
  go_ret
  refine ⟨?_, rfl⟩
  rw [HX.out]
  refine ret_int ?_
  first | rfl | (show x / 4096 = x / 4096 % 8; omega) | (show x % 8 = x / 4096 % 8; omega)
theorem rcut_25_31 (x : Int) (w : World) (h0 : 0 ≤ x) (h1 : x ≤ 4294967295) :
    Calls Try.prog 56 #[.int .u32 x, .int .i64 25, .int .i64 31] w fun e w' => e = .returned (.int .i64 (cutI x 25 31)) ∧ w = w' := by
  have HX := Lib.hid (cut_eq x 25 31 33554432 128 (by decide) (by decide))
  go_enter Try.func56, Try.ntmps56
  go_wp2_with (first
    | (go_at_call 61; (with_reducible refine (power_lit 25 33554432 _ (by decide) (by decide) (by decide)).mono ?_); rintro e w1 ⟨rfl, rfl⟩)
    | (go_at_call 61; (with_reducible refine (power_lit 7 128 _ (by decide) (by decide) (by decide)).mono ?_); rintro e w1 ⟨rfl, rfl⟩))
  go_ret
  refine ⟨?_, rfl⟩
  rw [HX.out]
  refine ret_int ?_
  first | rfl | (show x / 33554432 = x / 33554432 % 128; omega) | (show x % 128 = x / 33554432 % 128; omega)
theorem rcut_7_11 (x : Int) (w : World) (h0 : 0 ≤ x) (h1 : x ≤ 4294967295) :
    Calls Try.prog 56 #[.int .u32 x, .int .i64 7, .int .i64 11] w fun e w' => e = .returned (.int .i64 (cutI x 7 11)) ∧ w = w' := by
  have HX := Lib.hid (cut_eq x 7 11 128 32 (by decide) (by decide))
  go_enter Try.func56, Try.ntmps56
  go_wp2_with (first
    | (go_at_call 61; (with_reducible refine (power_lit 7 128 _ (by decide) (by decide) (by decide)).mono ?_); rintro e w1 ⟨rfl, rfl⟩)
    | (go_at_call 61; (with_reducible refine (power_lit 5 32 _ (by decide) (by decide) (by decide)).mono ?_); rintro e w1 ⟨rfl, rfl⟩))
  go_ret
  refine ⟨?_, rfl⟩
  rw [HX.out]
  refine ret_int ?_
  first | rfl | (show x / 128 = x / 128 % 32; omega) | (show x % 32 = x / 128 % 32; omega)
theorem rcut_15_19 (x : Int) (w : World) (h0 : 0 ≤ x) (h1 : x ≤ 4294967295) :
    Calls Try.prog 56 #[.int .u32 x, .int .i64 15, .int .i64 19] w fun e w' => e = .returned (.int .i64 (cutI x 15 19)) ∧ w = w' := by
  have HX := Lib.hid (cut_eq x 15 19 32768 32 (by decide) (by decide))
  go_enter Try.func56, Try.ntmps56
  go_wp2_with (first
    | (go_at_call 61; (with_reducible refine (power_lit 15 32768 _ (by decide) (by decide) (by decide)).mono ?_); rintro e w1 ⟨rfl, rfl⟩)
    | (go_at_call 61; (with_reducible refine (power_lit 5 32 _ (by decide) (by decide) (by decide)).mono ?_); rintro e w1 ⟨rfl, rfl⟩))
  go_ret
  refine ⟨?_, rfl⟩
  rw [HX.out]
  refine ret_int ?_
  first | rfl | (show x / 32768 = x / 32768 % 32; omega) | (show x % 32 = x / 32768 % 32; omega)
theorem rcut_20_24 (x : Int) (w : World) (h0 : 0 ≤ x) (h1 : x ≤ 4294967295) :
    Calls Try.prog 56 #[.int .u32 x, .int .i64 20, .int .i64 24] w fun e w' => e = .returned (.int .i64 (cutI x 20 24)) ∧ w = w' := by
  have HX := Lib.hid (cut_eq x 20 24 1048576 32 (by decide) (by decide))
  go_enter Try.func56, Try.ntmps56
  go_wp2_with (first
    | (go_at_call 61; (with_reducible refine (power_lit 20 1048576 _ (by decide) (by decide) (by decide)).mono ?_); rintro e w1 ⟨rfl, rfl⟩)
    | (go_at_call 61; (with_reducible refine (power_lit 5 32 _ (by decide) (by decide) (by decide)).mono ?_); rintro e w1 ⟨rfl, rfl⟩))
  go_ret
  refine ⟨?_, rfl⟩
  rw [HX.out]
  refine ret_int ?_
  first | rfl | (show x / 1048576 = x / 1048576 % 32; omega) | (show x % 32 = x / 1048576 % 32; omega)
theorem rcut_31_31 (x : Int) (w : World) (h0 : 0 ≤ x) (h1 : x ≤ 4294967295) :
    Calls Try.prog 56 #[.int .u32 x, .int .i64 31, .int .i64 31] w fun e w' => e = .returned (.int .i64 (cutI x 31 31)) ∧ w = w' := by
  have HX := Lib.hid (cut_eq x 31 31 2147483648 2 (by decide) (by decide))
  go_enter Try.func56, Try.ntmps56
  go_wp2_with (first
    | (go_at_call 61; (with_reducible refine (power_lit 31 2147483648 _ (by decide) (by decide) (by decide)).mono ?_); rintro e w1 ⟨rfl, rfl⟩)
    | (go_at_call 61; (with_reducible refine (power_lit 1 2 _ (by decide) (by decide) (by decide)).mono ?_); rintro e w1 ⟨rfl, rfl⟩))
  go_ret
  refine ⟨?_, rfl⟩
  rw [HX.out]
  refine ret_int ?_
  first | rfl | (show x / 2147483648 = x / 2147483648 % 2; omega) | (show x % 2 = x / 2147483648 % 2; omega)
theorem rcut_12_19 (x : Int) (w : World) (h0 : 0 ≤ x) (h1 : x ≤ 4294967295) :
    Calls Try.prog 56 #[.int .u32 x, .int .i64 12, .int .i64 19] w fun e w' => e = .returned (.int .i64 (cutI x 12 19)) ∧ w = w' := by
  have HX := Lib.hid (cut_eq x 12 19 4096 256 (by decide) (by decide))
  go_enter Try.func56, Try.ntmps56
  go_wp2_with (first
    | (go_at_call 61; (with_reducible refine (power_lit 12 4096 _ (by decide) (by decide) (by decide)).mono ?_); rintro e w1 ⟨rfl, rfl⟩)
    | (go_at_call 61; (with_reducible refine (power_lit 8 256 _ (by decide) (by decide) (by decide)).mono ?_); rintro e w1 ⟨rfl, rfl⟩))
  go_ret
  refine ⟨?_, rfl⟩
  rw [HX.out]
  refine ret_int ?_
  first | rfl | (show x / 4096 = x / 4096 % 256; omega) | (show x % 256 = x / 4096 % 256; omega)
theorem rcut_20_20 (x : Int) (w : World) (h0 : 0 ≤ x) (h1 : x ≤ 4294967295) :
    Calls Try.prog 56 #[.int .u32 x, .int .i64 20, .int .i64 20] w fun e w' => e = .returned (.int .i64 (cutI x 20 20)) ∧ w = w' := by
  have HX := Lib.hid (cut_eq x 20 20 1048576 2 (by decide) (by decide))
  go_enter Try.func56, Try.ntmps56
  go_wp2_with (first
    | (go_at_call 61; (with_reducible refine (power_lit 20 1048576 _ (by decide) (by decide) (by decide)).mono ?_); rintro e w1 ⟨rfl, rfl⟩)
    | (go_at_call 61; (with_reducible refine (power_lit 1 2 _ (by decide) (by decide) (by decide)).mono ?_); rintro e w1 ⟨rfl, rfl⟩))
  go_ret
  refine ⟨?_, rfl⟩
  rw [HX.out]
  refine ret_int ?_
  first | rfl | (show x / 1048576 = x / 1048576 % 2; omega) | (show x % 2 = x / 1048576 % 2; omega)
theorem rcut_21_30 (x : Int) (w : World) (h0 : 0 ≤ x) (h1 : x ≤ 4294967295) :
    Calls Try.prog 56 #[.int .u32 x, .int .i64 21, .int .i64 30] w fun e w' => e = .returned (.int .i64 (cutI x 21 30)) ∧ w = w' := by
  have HX := Lib.hid (cut_eq x 21 30 2097152 1024 (by decide) (by decide))
  go_enter Try.func56, Try.ntmps56
  go_wp2_with (first
    | (go_at_call 61; (with_reducible refine (power_lit 21 2097152 _ (by decide) (by decide) (by decide)).mono ?_); rintro e w1 ⟨rfl, rfl⟩)
    | (go_at_call 61; (with_reducible refine (power_lit 10 1024 _ (by decide) (by decide) (by decide)).mono ?_); rintro e w1 ⟨rfl, rfl⟩))
  go_ret
  refine ⟨?_, rfl⟩
  rw [HX.out]
  refine ret_int ?_
  first | rfl | (show x / 2097152 = x / 2097152 % 1024; omega) | (show x % 1024 = x / 2097152 % 1024; omega)
theorem rcut_20_31 (x : Int) (w : World) (h0 : 0 ≤ x) (h1 : x ≤ 4294967295) :
    Calls Try.prog 56 #[.int .u32 x, .int .i64 20, .int .i64 31] w fun e w' => e = .returned (.int .i64 (cutI x 20 31)) ∧ w = w' := by
  have HX := Lib.hid (cut_eq x 20 31 1048576 4096 (by decide) (by decide))
  go_enter Try.func56, Try.ntmps56
  go_wp2_with (first
    | (go_at_call 61; (with_reducible refine (power_lit 20 1048576 _ (by decide) (by decide) (by decide)).mono ?_); rintro e w1 ⟨rfl, rfl⟩)
    | (go_at_call 61; (with_reducible refine (power_lit 12 4096 _ (by decide) (by decide) (by decide)).mono ?_); rintro e w1 ⟨rfl, rfl⟩))
  go_ret
  refine ⟨?_, rfl⟩
  rw [HX.out]
  refine ret_int ?_
  first | rfl | (show x / 1048576 = x / 1048576 % 4096; omega) | (show x % 4096 = x / 1048576 % 4096; omega)
theorem rcut_7_7 (x : Int) (w : World) (h0 : 0 ≤ x) (h1 : x ≤ 4294967295) :
    Calls Try.prog 56 #[.int .u32 x, .int .i64 7, .int .i64 7] w fun e w' => e = .returned (.int .i64 (cutI x 7 7)) ∧ w = w' := by
  have HX := Lib.hid (cut_eq x 7 7 128 2 (by decide) (by decide))
  go_enter Try.func56, Try.ntmps56
  go_wp2_with (first
    | (go_at_call 61; (with_reducible refine (power_lit 7 128 _ (by decide) (by decide) (by decide)).mono ?_); rintro e w1 ⟨rfl, rfl⟩)
    | (go_at_call 61; (with_reducible refine (power_lit 1 2 _ (by decide) (by decide) (by decide)).mono ?_); rintro e w1 ⟨rfl, rfl⟩))
  go_ret
  refine ⟨?_, rfl⟩
  rw [HX.out]
  refine ret_int ?_
  first | rfl | (show x / 128 = x / 128 % 2; omega) | (show x % 2 = x / 128 % 2; omega)
theorem rcut_25_30 (x : Int) (w : World) (h0 : 0 ≤ x) (h1 : x ≤ 4294967295) :
    Calls Try.prog 56 #[.int .u32 x, .int .i64 25, .int .i64 30] w fun e w' => e = .returned (.int .i64 (cutI x 25 30)) ∧ w = w' := by
  have HX := Lib.hid (cut_eq x 25 30 33554432 64 (by decide) (by decide))
  go_enter Try.func56, Try.ntmps56
  go_wp2_with (first
    | (go_at_call 61; (with_reducible refine (power_lit 25 33554432 _ (by decide) (by decide) (by decide)).mono ?_); rintro e w1 ⟨rfl, rfl⟩)
    | (go_at_call 61; (with_reducible refine (power_lit 6 64 _ (by decide) (by decide) (by decide)).mono ?_); rintro e w1 ⟨rfl, rfl⟩))
  go_ret
  refine ⟨?_, rfl⟩
  rw [HX.out]
  refine ret_int ?_
  first | rfl | (show x / 33554432 = x / 33554432 % 64; omega) | (show x % 64 = x / 33554432 % 64; omega)
theorem rcut_8_11 (x : Int) (w : World) (h0 : 0 ≤ x) (h1 : x ≤ 4294967295) :
    Calls Try.prog 56 #[.int .u32 x, .int .i64 8, .int .i64 11] w fun e w' => e = .returned (.int .i64 (cutI x 8 11)) ∧ w = w' := by
  have HX := Lib.hid (cut_eq x 8 11 256 16 (by decide) (by decide))
  go_enter Try.func56, Try.ntmps56
  go_wp2_with (first
    | (go_at_call 61; (with_reducible refine (power_lit 8 256 _ (by decide) (by decide) (by decide)).mono ?_); rintro e w1 ⟨rfl, rfl⟩)
    | (go_at_call 61; (with_reducible refine (power_lit 4 16 _ (by decide) (by decide) (by decide)).mono ?_); rintro e w1 ⟨rfl, rfl⟩))
  go_ret
  refine ⟨?_, rfl⟩
  rw [HX.out]
  refine ret_int ?_
  first | rfl | (show x / 256 = x / 256 % 16; omega) | (show x % 16 = x / 256 % 16; omega)
theorem rcut_0_11 (x : Int) (w : World) (h0 : 0 ≤ x) (h1 : x ≤ 4294967295) :
    Calls Try.prog 56 #[.int .u32 x, .int .i64 0, .int .i64 11] w fun e w' => e = .returned (.int .i64 (cutI x 0 11)) ∧ w = w' := by
  have HX := Lib.hid (cut_eq x 0 11 1 4096 (by decide) (by decide))
  go_enter Try.func56, Try.ntmps56
  go_wp2_with (first
    | (go_at_call 61; (with_reducible refine (power_lit 0 1 _ (by decide) (by decide) (by decide)).mono ?_); rintro e w1 ⟨rfl, rfl⟩)
    | (go_at_call 61; (with_reducible refine (power_lit 12 4096 _ (by decide) (by decide) (by decide)).mono ?_); rintro e w1 ⟨rfl, rfl⟩))
  go_ret
  refine ⟨?_, rfl⟩
  rw [HX.out]
  refine ret_int ?_
  first | rfl | (show x / 1 = x / 1 % 4096; omega) | (show x % 4096 = x / 1 % 4096; omega)
theorem rsigned_21 (x : Int) (w : World) (h0 : 0 ≤ x) (h1 : x < 2097152) :
    Calls Try.prog 58 #[.int .i64 x, .int .i64 21] w fun e w' => e = .returned (.int .i32 (sgnI x 21)) ∧ w = w' := by
  have HX := Lib.hid (show sgnI x 21 = if x < 1048576 then x else x - 2097152 by unfold sgnI; rw [show (2 : Int) ^ (21 - 1) = 1048576 by decide, show (2 : Int) ^ 21 = 2097152 by decide])
  go_enter Try.func58, Try.ntmps58
  go_wp2_with (go_at_call 61; (with_reducible refine (power_lit 20 1048576 _ (by decide) (by decide) (by decide)).mono ?_); rintro e w1 ⟨rfl, rfl⟩)
  all_goals
    go_ret
    refine ⟨ret_int ?_, rfl⟩
    rw [HX.out]
    split <;> first | rfl | omega | (unfold wrap32; omega)
theorem rsigned_13 (x : Int) (w : World) (h0 : 0 ≤ x) (h1 : x < 8192) :
    Calls Try.prog 58 #[.int .i64 x, .int .i64 13] w fun e w' => e = .returned (.int .i32 (sgnI x 13)) ∧ w = w' := by
  have HX := Lib.hid (show sgnI x 13 = if x < 4096 then x else x - 8192 by unfold sgnI; rw [show (2 : Int) ^ (13 - 1) = 4096 by decide, show (2 : Int) ^ 13 = 8192 by decide])
  go_enter Try.func58, Try.ntmps58
  go_wp2_with (go_at_call 61; (with_reducible refine (power_lit 12 4096 _ (by decide) (by decide) (by decide)).mono ?_); rintro e w1 ⟨rfl, rfl⟩)
  all_goals
    go_ret
    refine ⟨ret_int ?_, rfl⟩
    rw [HX.out]
    split <;> first | rfl | omega | (unfold wrap32; omega)
theorem rsigned_12 (x : Int) (w : World) (h0 : 0 ≤ x) (h1 : x < 4096) :
    Calls Try.prog 58 #[.int .i64 x, .int .i64 12] w fun e w' => e = .returned (.int .i32 (sgnI x 12)) ∧ w = w' := by
  have HX := Lib.hid (show sgnI x 12 = if x < 2048 then x else x - 4096 by unfold sgnI; rw [show (2 : Int) ^ (12 - 1) = 2048 by decide, show (2 : Int) ^ 12 = 4096 by decide])
  go_enter Try.func58, Try.ntmps58
  go_wp2_with (go_at_call 61; (with_reducible refine (power_lit 11 2048 _ (by decide) (by decide) (by decide)).mono ?_); rintro e w1 ⟨rfl, rfl⟩)
  all_goals
    go_ret
    refine ⟨ret_int ?_, rfl⟩
    rw [HX.out]
    split <;> first | rfl | omega | (unfold wrap32; omega)
theorem pickP_drop (n : Int) (l : List (Int × Int)) (k : Nat) (hk : k < l.length) : pickP n (l.drop k) = if (l.getD k (0, 0)).1 = n then (l.getD k (0, 0)).2 else pickP n (l.drop (k + 1)) := by
  rw [List.drop_eq_getElem_cons hk]
  have : l.getD k (0, 0) = l[k] := by simp [List.getD, List.getElem?_eq_getElem hk]
  rw [this]
  rfl
set_option maxRecDepth 100000 in
theorem pick_any (n : Int) (l : List (Int × Int)) (len : Nat) (g g2 : Nat) (w : World) (hl : l.length = len) (hll : len ≤ 100) (hg : ∀ k : Nat, k < len → w.cell? ⟨g, k, none⟩ = some (.int .i64 (l.getD k (0, 0)).1)) (hg2 : ∀ k : Nat, k < len → w.cell? ⟨g2, k, none⟩ = some (.int .i64 (l.getD k (0, 0)).2)) :
    Calls Try.prog 79 #[.int .i64 n, .slice (some ⟨g, 0, none⟩) len len, .slice (some ⟨g2, 0, none⟩) len len] w fun e w' => e = .returned (.int .i64 (pickP n l)) ∧ w = w' := by
  generalize hX : pickP n l = X
  have HX : Hid (pickP n (l.drop 0) = X) := Lib.hid hX
  have Hl := Lib.hid hl
  have Hg := Lib.hid hg
  have Hg2 := Lib.hid hg2
  clear hX hl hg hg2
  go_enter Try.func79, Try.ntmps79
  go_wp2_with (fail)
  go_loop [7] (fun v => ∃ k : Nat, v = .int .i64 k ∧ k ≤ len ∧ Hid (pickP n (l.drop k) = X)) (fun v => len + 1 - (intOf v).toNat)
  case atStart => exact ⟨0, rfl, by omega, HX⟩
  case round =>
    obtain ⟨k, rfl, hk, HR⟩ := hrel
    by_cases hlt : k < len
    · have hs := pickP_drop n l k (by rw [Hl.out]; exact hlt)
      have c1 := Hg.out k hlt
      have c2 := Hg2.out k hlt
      generalize l.getD k (0, 0) = p at hs c1 c2
      obtain ⟨a, b⟩ := p
      dsimp only at hs c1 c2
      by_cases he : a = n
      · have HR2 : b = X := by have h := HR.out; rw [hs, if_pos he] at h; exact h
        have Hb := Lib.hid HR2
        have e1 : (a == n) = true := by simp [he]
        clear HR hs HR2 he
        go_wp2_with (fail)
        go_ret
        exact ⟨ret_int Hb.out, rfl⟩
      · have HR2 : Hid (pickP n (l.drop (k + 1)) = X) := by have h := HR.out; rw [hs, if_neg he] at h; exact Lib.hid h
        have e1 : (a == n) = false := by simp [he]
        clear HR hs he c2
        go_wp2_with (fail)
        go_round
        case rel => exact ⟨k + 1, by go_num, by omega, HR2⟩
        case measure => simp [intOf]; omega
    · obtain rfl : k = len := by omega
      have HR2 : -1 = X := by have h := HR.out; rw [List.drop_of_length_le (by rw [Hl.out]; omega)] at h; exact h
      have Hb := Lib.hid HR2
      clear HR HR2
      go_wp2_with (fail)
      go_ret
      exact ⟨ret_int Hb.out, rfl⟩
end Go.Proofs.Ytapgojgcmlnbgab
