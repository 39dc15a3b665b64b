/- The walk of humpyardref1.Alu and Holds. -/
import Derived.Test.YtapgojgcmlnbgabKHS925
import Derived.Test.YtapgojgcmlnbgabKHS905
set_option linter.unusedSimpArgs false
set_option linter.unusedVariables false

namespace Go.Proofs.Ytapgojgcmlnbgab
open Go.RowKit

theorem power_i (x : Int) (w : World) (h0 : 0 ≤ x) (h1 : x ≤ 61) :
    Calls Try.prog 61 #[.int .i64 x] w fun e w' => e = .returned (.int .i64 (2 ^ x.toNat : Nat)) ∧ w = w' := by
  obtain ⟨k, rfl⟩ := Int.eq_ofNat_of_zero_le h0
  exact power_any k w (by omega)
theorem bitsAnd_int (a b : Int) (w : World) (ha0 : 0 ≤ a) (ha1 : a ≤ 4294967295) (hb0 : 0 ≤ b) (hb1 : b ≤ 4294967295) :
    Calls Try.prog 60 #[.int .i64 37, .int .u32 a, .int .u32 b] w fun e w' => e = .returned (.int .u32 (bits .and .u32 a b)) ∧ w = w' := by
  obtain ⟨n, rfl⟩ := Int.eq_ofNat_of_zero_le ha0
  obtain ⟨m, rfl⟩ := Int.eq_ofNat_of_zero_le hb0
  rw [and_u32 n m (by omega) (by omega)]
  exact bitsAnd_any n m w (by omega) (by omega)
theorem bitsOr_int (a b : Int) (w : World) (ha0 : 0 ≤ a) (ha1 : a ≤ 4294967295) (hb0 : 0 ≤ b) (hb1 : b ≤ 4294967295) :
    Calls Try.prog 60 #[.int .i64 36, .int .u32 a, .int .u32 b] w fun e w' => e = .returned (.int .u32 (bits .or .u32 a b)) ∧ w = w' := by
  obtain ⟨n, rfl⟩ := Int.eq_ofNat_of_zero_le ha0
  obtain ⟨m, rfl⟩ := Int.eq_ofNat_of_zero_le hb0
  rw [or_u32 n m (by omega) (by omega)]
  exact bitsOr_any n m w (by omega) (by omega)
theorem bitsXor_int (a b : Int) (w : World) (ha0 : 0 ≤ a) (ha1 : a ≤ 4294967295) (hb0 : 0 ≤ b) (hb1 : b ≤ 4294967295) :
    Calls Try.prog 60 #[.int .i64 33, .int .u32 a, .int .u32 b] w fun e w' => e = .returned (.int .u32 (bits .xor .u32 a b)) ∧ w = w' := by
  obtain ⟨n, rfl⟩ := Int.eq_ofNat_of_zero_le ha0
  obtain ⟨m, rfl⟩ := Int.eq_ofNat_of_zero_le hb0
  rw [xor_u32 n m (by omega) (by omega)]
  exact bitsXor_any n m w (by omega) (by omega)

theorem sg_mul (a b : Int) : sg a * sg b % 4294967296 = a * b % 4294967296 := by
  have h : ∀ x, sg x % 4294967296 = x % 4294967296 := fun x => by unfold sg; split <;> omega
  rw [Int.mul_emod, h, h, ← Int.mul_emod]
theorem shl_law (a : Int) (s : Nat) (hs : s ≤ 31) : a % ((2 ^ (32 - s) : Nat) : Int) * ((2 ^ s : Nat) : Int) = a * ((2 ^ s : Nat) : Int) % 4294967296 := by
  have h : (4294967296 : Int) = ((2 ^ s : Nat) : Int) * ((2 ^ (32 - s) : Nat) : Int) := by
    rw [← Int.natCast_mul, ← Nat.pow_add, show s + (32 - s) = 32 by omega]
    rfl
  have hp : (0 : Int) < ((2 ^ s : Nat) : Int) := by have := Nat.two_pow_pos s; omega
  rw [h, Int.mul_comm a, Int.mul_emod_mul_of_pos _ _ hp, Int.mul_comm]
theorem ediv_abs (a b : Int) (h2 : 1 ≤ b) : (a / b).natAbs ≤ a.natAbs := by
  rcases Int.lt_or_le a 0 with ha | ha
  · have k1 : a ≤ a / b := Int.le_ediv_of_mul_le (by omega) (by
      have := Int.mul_le_mul_of_nonpos_left (show a ≤ 0 by omega) h2
      rw [Int.mul_one] at this
      exact this)
    have k2 := Int.ediv_neg_of_neg_of_pos ha (show 0 < b by omega)
    omega
  · have k1 := Int.ediv_nonneg ha (show 0 ≤ b by omega)
    have k2 := Int.ediv_le_self b ha
    omega

set_option maxRecDepth 100000 in
set_option maxHeartbeats 2000000 in
theorem refAlu_any (op a b : Int) (w : World) (ha0 : 0 ≤ a) (ha1 : a ≤ 4294967295) (hb0 : 0 ≤ b) (hb1 : b ≤ 4294967295) :
    Calls Try.prog 29 #[.int .i64 op, .int .u32 a, .int .u32 b] w fun e w' => e = .returned (.int .u32 (aluP op a b)) ∧ Below w.heap.size w w' := by
  have l1 := sg_lo ha0 ha1
  have l2 := sg_hi ha0 ha1
  have l3 := sg_lo hb0 hb1
  have l4 := sg_hi hb0 hb1
  obtain ⟨P, hP, P0, P1⟩ : ∃ P : Int, P = ((2 ^ (b % 32).toNat : Nat) : Int) ∧ 1 ≤ P ∧ P ≤ 2147483648 := ⟨_, rfl, by have := Nat.two_pow_pos (b % 32).toNat; omega, by have : (2 ^ (b % 32).toNat : Nat) ≤ 2 ^ 31 := Nat.pow_le_pow_right (by omega) (by omega); omega⟩
  have HP := Lib.hid hP
  clear hP
  generalize hX : aluP op a b = X
  have HX := Lib.hid hX
  clear hX
  by_cases h : op = 28
  · subst h
    go_enter Try.func29, Try.ntmps29
    go_wp2_with (first
      | (go_at_call 57; (first | with_reducible refine (signed_any a _ ha0 ha1).mono ?_ | with_reducible refine (signed_any _ _ hb0 hb1).mono ?_); rintro e w1 ⟨rfl, rfl⟩)
      | (go_at_call 63; (with_reducible refine (rtruth_any _ _).mono ?_); rintro e w1 ⟨rfl, rfl⟩)
      | (go_at_call 60; (first | with_reducible refine (bitsAnd_int a b _ ha0 ha1 hb0 hb1).mono ?_ | with_reducible refine (bitsOr_int a b _ ha0 ha1 hb0 hb1).mono ?_ | with_reducible refine (bitsXor_int a b _ ha0 ha1 hb0 hb1).mono ?_); rintro e w1 ⟨rfl, rfl⟩)
      | (go_at_call 64; (with_reducible refine (upper_any _ _ _ (by omega) (by omega) (by omega) (by omega)).mono ?_); rintro e w1 ⟨rfl, rfl⟩)
      | (go_at_call 62; (with_reducible refine (floor_any _ _ _ (by omega) (by omega) (by omega) (by omega)).mono ?_); rintro e w1 ⟨rfl, rfl⟩)
      | (go_at_call 61; (with_reducible refine (power_i _ _ (by omega) (by omega)).mono ?_); rintro e w1 ⟨rfl, rfl⟩; rw [← HP.out])
      | (go_at_call 59; (with_reducible refine (of_any _ _ (by omega) (by omega)).mono ?_); rintro e w1 ⟨rfl, rfl⟩))
    all_goals
      go_ret
      refine ⟨?_, Below.refl _ _⟩
      show Ending.returned (.int .u32 _) = _
      rw [← HX.out]
      refine ret_int ?_
    rfl
  by_cases h : op = 29
  · subst h
    go_enter Try.func29, Try.ntmps29
    go_wp2_with (first
      | (go_at_call 57; (first | with_reducible refine (signed_any a _ ha0 ha1).mono ?_ | with_reducible refine (signed_any _ _ hb0 hb1).mono ?_); rintro e w1 ⟨rfl, rfl⟩)
      | (go_at_call 63; (with_reducible refine (rtruth_any _ _).mono ?_); rintro e w1 ⟨rfl, rfl⟩)
      | (go_at_call 60; (first | with_reducible refine (bitsAnd_int a b _ ha0 ha1 hb0 hb1).mono ?_ | with_reducible refine (bitsOr_int a b _ ha0 ha1 hb0 hb1).mono ?_ | with_reducible refine (bitsXor_int a b _ ha0 ha1 hb0 hb1).mono ?_); rintro e w1 ⟨rfl, rfl⟩)
      | (go_at_call 64; (with_reducible refine (upper_any _ _ _ (by omega) (by omega) (by omega) (by omega)).mono ?_); rintro e w1 ⟨rfl, rfl⟩)
      | (go_at_call 62; (with_reducible refine (floor_any _ _ _ (by omega) (by omega) (by omega) (by omega)).mono ?_); rintro e w1 ⟨rfl, rfl⟩)
      | (go_at_call 61; (with_reducible refine (power_i _ _ (by omega) (by omega)).mono ?_); rintro e w1 ⟨rfl, rfl⟩; rw [← HP.out])
      | (go_at_call 59; (with_reducible refine (of_any _ _ (by omega) (by omega)).mono ?_); rintro e w1 ⟨rfl, rfl⟩))
    all_goals
      go_ret
      refine ⟨?_, Below.refl _ _⟩
      show Ending.returned (.int .u32 _) = _
      rw [← HX.out]
      refine ret_int ?_
    rfl
  by_cases h : op = 37
  · subst h
    go_enter Try.func29, Try.ntmps29
    go_wp2_with (first
      | (go_at_call 57; (first | with_reducible refine (signed_any a _ ha0 ha1).mono ?_ | with_reducible refine (signed_any _ _ hb0 hb1).mono ?_); rintro e w1 ⟨rfl, rfl⟩)
      | (go_at_call 63; (with_reducible refine (rtruth_any _ _).mono ?_); rintro e w1 ⟨rfl, rfl⟩)
      | (go_at_call 60; (first | with_reducible refine (bitsAnd_int a b _ ha0 ha1 hb0 hb1).mono ?_ | with_reducible refine (bitsOr_int a b _ ha0 ha1 hb0 hb1).mono ?_ | with_reducible refine (bitsXor_int a b _ ha0 ha1 hb0 hb1).mono ?_); rintro e w1 ⟨rfl, rfl⟩)
      | (go_at_call 64; (with_reducible refine (upper_any _ _ _ (by omega) (by omega) (by omega) (by omega)).mono ?_); rintro e w1 ⟨rfl, rfl⟩)
      | (go_at_call 62; (with_reducible refine (floor_any _ _ _ (by omega) (by omega) (by omega) (by omega)).mono ?_); rintro e w1 ⟨rfl, rfl⟩)
      | (go_at_call 61; (with_reducible refine (power_i _ _ (by omega) (by omega)).mono ?_); rintro e w1 ⟨rfl, rfl⟩; rw [← HP.out])
      | (go_at_call 59; (with_reducible refine (of_any _ _ (by omega) (by omega)).mono ?_); rintro e w1 ⟨rfl, rfl⟩))
    all_goals
      go_ret
      refine ⟨?_, Below.refl _ _⟩
      show Ending.returned (.int .u32 _) = _
      rw [← HX.out]
      refine ret_int ?_
    rfl
  by_cases h : op = 36
  · subst h
    go_enter Try.func29, Try.ntmps29
    go_wp2_with (first
      | (go_at_call 57; (first | with_reducible refine (signed_any a _ ha0 ha1).mono ?_ | with_reducible refine (signed_any _ _ hb0 hb1).mono ?_); rintro e w1 ⟨rfl, rfl⟩)
      | (go_at_call 63; (with_reducible refine (rtruth_any _ _).mono ?_); rintro e w1 ⟨rfl, rfl⟩)
      | (go_at_call 60; (first | with_reducible refine (bitsAnd_int a b _ ha0 ha1 hb0 hb1).mono ?_ | with_reducible refine (bitsOr_int a b _ ha0 ha1 hb0 hb1).mono ?_ | with_reducible refine (bitsXor_int a b _ ha0 ha1 hb0 hb1).mono ?_); rintro e w1 ⟨rfl, rfl⟩)
      | (go_at_call 64; (with_reducible refine (upper_any _ _ _ (by omega) (by omega) (by omega) (by omega)).mono ?_); rintro e w1 ⟨rfl, rfl⟩)
      | (go_at_call 62; (with_reducible refine (floor_any _ _ _ (by omega) (by omega) (by omega) (by omega)).mono ?_); rintro e w1 ⟨rfl, rfl⟩)
      | (go_at_call 61; (with_reducible refine (power_i _ _ (by omega) (by omega)).mono ?_); rintro e w1 ⟨rfl, rfl⟩; rw [← HP.out])
      | (go_at_call 59; (with_reducible refine (of_any _ _ (by omega) (by omega)).mono ?_); rintro e w1 ⟨rfl, rfl⟩))
    all_goals
      go_ret
      refine ⟨?_, Below.refl _ _⟩
      show Ending.returned (.int .u32 _) = _
      rw [← HX.out]
      refine ret_int ?_
    rfl
  by_cases h : op = 33
  · subst h
    go_enter Try.func29, Try.ntmps29
    go_wp2_with (first
      | (go_at_call 57; (first | with_reducible refine (signed_any a _ ha0 ha1).mono ?_ | with_reducible refine (signed_any _ _ hb0 hb1).mono ?_); rintro e w1 ⟨rfl, rfl⟩)
      | (go_at_call 63; (with_reducible refine (rtruth_any _ _).mono ?_); rintro e w1 ⟨rfl, rfl⟩)
      | (go_at_call 60; (first | with_reducible refine (bitsAnd_int a b _ ha0 ha1 hb0 hb1).mono ?_ | with_reducible refine (bitsOr_int a b _ ha0 ha1 hb0 hb1).mono ?_ | with_reducible refine (bitsXor_int a b _ ha0 ha1 hb0 hb1).mono ?_); rintro e w1 ⟨rfl, rfl⟩)
      | (go_at_call 64; (with_reducible refine (upper_any _ _ _ (by omega) (by omega) (by omega) (by omega)).mono ?_); rintro e w1 ⟨rfl, rfl⟩)
      | (go_at_call 62; (with_reducible refine (floor_any _ _ _ (by omega) (by omega) (by omega) (by omega)).mono ?_); rintro e w1 ⟨rfl, rfl⟩)
      | (go_at_call 61; (with_reducible refine (power_i _ _ (by omega) (by omega)).mono ?_); rintro e w1 ⟨rfl, rfl⟩; rw [← HP.out])
      | (go_at_call 59; (with_reducible refine (of_any _ _ (by omega) (by omega)).mono ?_); rintro e w1 ⟨rfl, rfl⟩))
    all_goals
      go_ret
      refine ⟨?_, Below.refl _ _⟩
      show Ending.returned (.int .u32 _) = _
      rw [← HX.out]
      refine ret_int ?_
    rfl
  by_cases h : op = 34
  · subst h
    have d0 := Int.ediv_nonneg ha0 (show 0 ≤ P by omega)
    have d1 := Int.ediv_le_self P ha0
    go_enter Try.func29, Try.ntmps29
    go_wp2_with (first
      | (go_at_call 57; (first | with_reducible refine (signed_any a _ ha0 ha1).mono ?_ | with_reducible refine (signed_any _ _ hb0 hb1).mono ?_); rintro e w1 ⟨rfl, rfl⟩)
      | (go_at_call 63; (with_reducible refine (rtruth_any _ _).mono ?_); rintro e w1 ⟨rfl, rfl⟩)
      | (go_at_call 60; (first | with_reducible refine (bitsAnd_int a b _ ha0 ha1 hb0 hb1).mono ?_ | with_reducible refine (bitsOr_int a b _ ha0 ha1 hb0 hb1).mono ?_ | with_reducible refine (bitsXor_int a b _ ha0 ha1 hb0 hb1).mono ?_); rintro e w1 ⟨rfl, rfl⟩)
      | (go_at_call 64; (with_reducible refine (upper_any _ _ _ (by omega) (by omega) (by omega) (by omega)).mono ?_); rintro e w1 ⟨rfl, rfl⟩)
      | (go_at_call 62; (with_reducible refine (floor_any _ _ _ (by omega) (by omega) (by omega) (by omega)).mono ?_); rintro e w1 ⟨rfl, rfl⟩)
      | (go_at_call 61; (with_reducible refine (power_i _ _ (by omega) (by omega)).mono ?_); rintro e w1 ⟨rfl, rfl⟩; rw [← HP.out])
      | (go_at_call 59; (with_reducible refine (of_any _ _ (by omega) (by omega)).mono ?_); rintro e w1 ⟨rfl, rfl⟩))
    all_goals
      go_ret
      refine ⟨?_, Below.refl _ _⟩
      show Ending.returned (.int .u32 _) = _
      rw [← HX.out]
      refine ret_int ?_
    show a / P % 4294967296 = a / ((2 ^ (b % 32).toNat : Nat) : Int)
    rw [← HP.out]
    omega
  by_cases h : op = 35
  · subst h
    have d0 := ediv_abs (sg a) P P0
    have d1 : -4611686018427387904 ≤ sg a / P ∧ sg a / P ≤ 4611686018427387904 := by omega
    obtain ⟨d2, d3⟩ := d1
    go_enter Try.func29, Try.ntmps29
    go_wp2_with (first
      | (go_at_call 57; (first | with_reducible refine (signed_any a _ ha0 ha1).mono ?_ | with_reducible refine (signed_any _ _ hb0 hb1).mono ?_); rintro e w1 ⟨rfl, rfl⟩)
      | (go_at_call 63; (with_reducible refine (rtruth_any _ _).mono ?_); rintro e w1 ⟨rfl, rfl⟩)
      | (go_at_call 60; (first | with_reducible refine (bitsAnd_int a b _ ha0 ha1 hb0 hb1).mono ?_ | with_reducible refine (bitsOr_int a b _ ha0 ha1 hb0 hb1).mono ?_ | with_reducible refine (bitsXor_int a b _ ha0 ha1 hb0 hb1).mono ?_); rintro e w1 ⟨rfl, rfl⟩)
      | (go_at_call 64; (with_reducible refine (upper_any _ _ _ (by omega) (by omega) (by omega) (by omega)).mono ?_); rintro e w1 ⟨rfl, rfl⟩)
      | (go_at_call 62; (with_reducible refine (floor_any _ _ _ (by omega) (by omega) (by omega) (by omega)).mono ?_); rintro e w1 ⟨rfl, rfl⟩)
      | (go_at_call 61; (with_reducible refine (power_i _ _ (by omega) (by omega)).mono ?_); rintro e w1 ⟨rfl, rfl⟩; rw [← HP.out])
      | (go_at_call 59; (with_reducible refine (of_any _ _ (by omega) (by omega)).mono ?_); rintro e w1 ⟨rfl, rfl⟩))
    all_goals
      go_ret
      refine ⟨?_, Below.refl _ _⟩
      show Ending.returned (.int .u32 _) = _
      rw [← HX.out]
      refine ret_int ?_
    show sg a / P % 4294967296 = sg a / ((2 ^ (b % 32).toNat : Nat) : Int) % 4294967296
    rw [← HP.out]
  by_cases h : op = 31
  · subst h
    go_enter Try.func29, Try.ntmps29
    go_wp2_with (first
      | (go_at_call 57; (first | with_reducible refine (signed_any a _ ha0 ha1).mono ?_ | with_reducible refine (signed_any _ _ hb0 hb1).mono ?_); rintro e w1 ⟨rfl, rfl⟩)
      | (go_at_call 63; (with_reducible refine (rtruth_any _ _).mono ?_); rintro e w1 ⟨rfl, rfl⟩)
      | (go_at_call 60; (first | with_reducible refine (bitsAnd_int a b _ ha0 ha1 hb0 hb1).mono ?_ | with_reducible refine (bitsOr_int a b _ ha0 ha1 hb0 hb1).mono ?_ | with_reducible refine (bitsXor_int a b _ ha0 ha1 hb0 hb1).mono ?_); rintro e w1 ⟨rfl, rfl⟩)
      | (go_at_call 64; (with_reducible refine (upper_any _ _ _ (by omega) (by omega) (by omega) (by omega)).mono ?_); rintro e w1 ⟨rfl, rfl⟩)
      | (go_at_call 62; (with_reducible refine (floor_any _ _ _ (by omega) (by omega) (by omega) (by omega)).mono ?_); rintro e w1 ⟨rfl, rfl⟩)
      | (go_at_call 61; (with_reducible refine (power_i _ _ (by omega) (by omega)).mono ?_); rintro e w1 ⟨rfl, rfl⟩; rw [← HP.out])
      | (go_at_call 59; (with_reducible refine (of_any _ _ (by omega) (by omega)).mono ?_); rintro e w1 ⟨rfl, rfl⟩))
    all_goals
      go_ret
      refine ⟨?_, Below.refl _ _⟩
      show Ending.returned (.int .u32 _) = _
      rw [← HX.out]
      refine ret_int ?_
    all_goals
      unfold aluP
      simp [*]
  by_cases h : op = 32
  · subst h
    go_enter Try.func29, Try.ntmps29
    go_wp2_with (first
      | (go_at_call 57; (first | with_reducible refine (signed_any a _ ha0 ha1).mono ?_ | with_reducible refine (signed_any _ _ hb0 hb1).mono ?_); rintro e w1 ⟨rfl, rfl⟩)
      | (go_at_call 63; (with_reducible refine (rtruth_any _ _).mono ?_); rintro e w1 ⟨rfl, rfl⟩)
      | (go_at_call 60; (first | with_reducible refine (bitsAnd_int a b _ ha0 ha1 hb0 hb1).mono ?_ | with_reducible refine (bitsOr_int a b _ ha0 ha1 hb0 hb1).mono ?_ | with_reducible refine (bitsXor_int a b _ ha0 ha1 hb0 hb1).mono ?_); rintro e w1 ⟨rfl, rfl⟩)
      | (go_at_call 64; (with_reducible refine (upper_any _ _ _ (by omega) (by omega) (by omega) (by omega)).mono ?_); rintro e w1 ⟨rfl, rfl⟩)
      | (go_at_call 62; (with_reducible refine (floor_any _ _ _ (by omega) (by omega) (by omega) (by omega)).mono ?_); rintro e w1 ⟨rfl, rfl⟩)
      | (go_at_call 61; (with_reducible refine (power_i _ _ (by omega) (by omega)).mono ?_); rintro e w1 ⟨rfl, rfl⟩; rw [← HP.out])
      | (go_at_call 59; (with_reducible refine (of_any _ _ (by omega) (by omega)).mono ?_); rintro e w1 ⟨rfl, rfl⟩))
    all_goals
      go_ret
      refine ⟨?_, Below.refl _ _⟩
      show Ending.returned (.int .u32 _) = _
      rw [← HX.out]
      refine ret_int ?_
    all_goals
      unfold aluP
      simp [*]
  by_cases h : op = 38
  · subst h
    obtain ⟨m1, m2⟩ := mul_abs (a := sg a) (b := sg b) (A := 2147483648) (B := 2147483648) (by omega) (by omega)
    go_enter Try.func29, Try.ntmps29
    go_wp2_with (first
      | (go_at_call 57; (first | with_reducible refine (signed_any a _ ha0 ha1).mono ?_ | with_reducible refine (signed_any _ _ hb0 hb1).mono ?_); rintro e w1 ⟨rfl, rfl⟩)
      | (go_at_call 63; (with_reducible refine (rtruth_any _ _).mono ?_); rintro e w1 ⟨rfl, rfl⟩)
      | (go_at_call 60; (first | with_reducible refine (bitsAnd_int a b _ ha0 ha1 hb0 hb1).mono ?_ | with_reducible refine (bitsOr_int a b _ ha0 ha1 hb0 hb1).mono ?_ | with_reducible refine (bitsXor_int a b _ ha0 ha1 hb0 hb1).mono ?_); rintro e w1 ⟨rfl, rfl⟩)
      | (go_at_call 64; (with_reducible refine (upper_any _ _ _ (by omega) (by omega) (by omega) (by omega)).mono ?_); rintro e w1 ⟨rfl, rfl⟩)
      | (go_at_call 62; (with_reducible refine (floor_any _ _ _ (by omega) (by omega) (by omega) (by omega)).mono ?_); rintro e w1 ⟨rfl, rfl⟩)
      | (go_at_call 61; (with_reducible refine (power_i _ _ (by omega) (by omega)).mono ?_); rintro e w1 ⟨rfl, rfl⟩; rw [← HP.out])
      | (go_at_call 59; (with_reducible refine (of_any _ _ (by omega) (by omega)).mono ?_); rintro e w1 ⟨rfl, rfl⟩))
    all_goals
      go_ret
      refine ⟨?_, Below.refl _ _⟩
      show Ending.returned (.int .u32 _) = _
      rw [← HX.out]
      refine ret_int ?_
    exact sg_mul a b
  by_cases h : op = 39
  · subst h
    obtain ⟨m1, m2⟩ := mul_abs (a := sg a) (b := sg b) (A := 2147483648) (B := 2147483648) (by omega) (by omega)
    have m3 := ediv_abs (sg a * sg b) 4294967296 (by omega)
    go_enter Try.func29, Try.ntmps29
    go_wp2_with (first
      | (go_at_call 57; (first | with_reducible refine (signed_any a _ ha0 ha1).mono ?_ | with_reducible refine (signed_any _ _ hb0 hb1).mono ?_); rintro e w1 ⟨rfl, rfl⟩)
      | (go_at_call 63; (with_reducible refine (rtruth_any _ _).mono ?_); rintro e w1 ⟨rfl, rfl⟩)
      | (go_at_call 60; (first | with_reducible refine (bitsAnd_int a b _ ha0 ha1 hb0 hb1).mono ?_ | with_reducible refine (bitsOr_int a b _ ha0 ha1 hb0 hb1).mono ?_ | with_reducible refine (bitsXor_int a b _ ha0 ha1 hb0 hb1).mono ?_); rintro e w1 ⟨rfl, rfl⟩)
      | (go_at_call 64; (with_reducible refine (upper_any _ _ _ (by omega) (by omega) (by omega) (by omega)).mono ?_); rintro e w1 ⟨rfl, rfl⟩)
      | (go_at_call 62; (with_reducible refine (floor_any _ _ _ (by omega) (by omega) (by omega) (by omega)).mono ?_); rintro e w1 ⟨rfl, rfl⟩)
      | (go_at_call 61; (with_reducible refine (power_i _ _ (by omega) (by omega)).mono ?_); rintro e w1 ⟨rfl, rfl⟩; rw [← HP.out])
      | (go_at_call 59; (with_reducible refine (of_any _ _ (by omega) (by omega)).mono ?_); rintro e w1 ⟨rfl, rfl⟩))
    all_goals
      go_ret
      refine ⟨?_, Below.refl _ _⟩
      show Ending.returned (.int .u32 _) = _
      rw [← HX.out]
      refine ret_int ?_
    rfl
  by_cases h : op = 40
  · subst h
    go_enter Try.func29, Try.ntmps29
    go_wp2_with (first
      | (go_at_call 57; (first | with_reducible refine (signed_any a _ ha0 ha1).mono ?_ | with_reducible refine (signed_any _ _ hb0 hb1).mono ?_); rintro e w1 ⟨rfl, rfl⟩)
      | (go_at_call 63; (with_reducible refine (rtruth_any _ _).mono ?_); rintro e w1 ⟨rfl, rfl⟩)
      | (go_at_call 60; (first | with_reducible refine (bitsAnd_int a b _ ha0 ha1 hb0 hb1).mono ?_ | with_reducible refine (bitsOr_int a b _ ha0 ha1 hb0 hb1).mono ?_ | with_reducible refine (bitsXor_int a b _ ha0 ha1 hb0 hb1).mono ?_); rintro e w1 ⟨rfl, rfl⟩)
      | (go_at_call 64; (with_reducible refine (upper_any _ _ _ (by omega) (by omega) (by omega) (by omega)).mono ?_); rintro e w1 ⟨rfl, rfl⟩)
      | (go_at_call 62; (with_reducible refine (floor_any _ _ _ (by omega) (by omega) (by omega) (by omega)).mono ?_); rintro e w1 ⟨rfl, rfl⟩)
      | (go_at_call 61; (with_reducible refine (power_i _ _ (by omega) (by omega)).mono ?_); rintro e w1 ⟨rfl, rfl⟩; rw [← HP.out])
      | (go_at_call 59; (with_reducible refine (of_any _ _ (by omega) (by omega)).mono ?_); rintro e w1 ⟨rfl, rfl⟩))
    all_goals
      go_ret
      refine ⟨?_, Below.refl _ _⟩
      show Ending.returned (.int .u32 _) = _
      rw [← HX.out]
      refine ret_int ?_
    rfl
  by_cases h : op = 41
  · subst h
    obtain ⟨m1, m2⟩ := mul_abs (a := a) (b := b) (A := 4294967295) (B := 4294967295) (by omega) (by omega)
    have m3 := Int.mul_nonneg ha0 hb0
    have HM1 := Lib.hid m1
    have HM2 := Lib.hid m2
    have HM3 := Lib.hid m3
    clear m1 m2 m3
    go_enter Try.func29, Try.ntmps29
    go_wp2_with (first
      | (go_at_call 57; (first | with_reducible refine (signed_any a _ ha0 ha1).mono ?_ | with_reducible refine (signed_any _ _ hb0 hb1).mono ?_); rintro e w1 ⟨rfl, rfl⟩)
      | (go_at_call 63; (with_reducible refine (rtruth_any _ _).mono ?_); rintro e w1 ⟨rfl, rfl⟩)
      | (go_at_call 60; (first | with_reducible refine (bitsAnd_int a b _ ha0 ha1 hb0 hb1).mono ?_ | with_reducible refine (bitsOr_int a b _ ha0 ha1 hb0 hb1).mono ?_ | with_reducible refine (bitsXor_int a b _ ha0 ha1 hb0 hb1).mono ?_); rintro e w1 ⟨rfl, rfl⟩)
      | (go_at_call 64; (with_reducible refine (upper_any _ _ _ (by omega) (by omega) (by omega) (by omega)).mono ?_); rintro e w1 ⟨rfl, rfl⟩)
      | (go_at_call 62; (with_reducible refine (floor_any _ _ _ (by omega) (by omega) (by omega) (by omega)).mono ?_); rintro e w1 ⟨rfl, rfl⟩)
      | (go_at_call 61; (with_reducible refine (power_i _ _ (by omega) (by omega)).mono ?_); rintro e w1 ⟨rfl, rfl⟩; rw [← HP.out])
      | (go_at_call 59; (with_reducible refine (of_any _ _ (by omega) (by omega)).mono ?_); rintro e w1 ⟨rfl, rfl⟩))
    all_goals
      go_ret
      refine ⟨?_, Below.refl _ _⟩
      show Ending.returned (.int .u32 _) = _
      rw [← HX.out]
      refine ret_int ?_
    show a * b / 4294967296 % 4294967296 = a * b / 4294967296
    have m2 := HM2.out
    have m3 := HM3.out
    generalize a * b = p at m2 m3 ⊢
    omega
  by_cases h : op = 30
  · subst h
    obtain ⟨Q, hQ, Q0, Q1⟩ : ∃ Q : Int, Q = ((2 ^ (32 - b % 32).toNat : Nat) : Int) ∧ 1 ≤ Q ∧ Q ≤ 4294967296 := ⟨_, rfl, by have := Nat.two_pow_pos (32 - b % 32).toNat; omega, by have : (2 ^ (32 - b % 32).toNat : Nat) ≤ 2 ^ 32 := Nat.pow_le_pow_right (by omega) (by omega); omega⟩
    have HQ := Lib.hid hQ
    clear hQ
    have hl := shl_law a (b % 32).toNat (by omega)
    rw [← HP.out, show 32 - (b % 32).toNat = (32 - b % 32).toNat by omega, ← HQ.out] at hl
    have v0 : 0 ≤ a % Q * P := by omega
    have v1 : a % Q * P ≤ 4294967295 := by omega
    have HL := Lib.hid hl
    clear hl
    go_enter Try.func29, Try.ntmps29
    go_wp2_with (go_at_call 57; (first | with_reducible refine (signed_any a _ ha0 ha1).mono ?_ | with_reducible refine (signed_any _ _ hb0 hb1).mono ?_); rintro e w1 ⟨rfl, rfl⟩)
    refine wp_region_below (by kernel_rfl) (by kernel_rfl) ?_
    repeat' (first
      | refine wpMix_plain rfl ?_
      | (refine' wpMixW_quiet _ (fun wq hwq K hK => ?_) ?_ ?_
         rotate_left 1
         · (obtain ⟨hcq, hfq⟩ := bcell hwq
            go_wp2_with (first | (go_at_call 61; (with_reducible refine (power_i _ _ (by omega) (by omega)).mono ?_); rintro e w3 ⟨rfl, rfl⟩; (first | rw [← HP.out] | rw [← HQ.out]); exact hK _ hwq) | (go_at_call 59; (with_reducible refine (of_any _ _ (by omega) (by omega)).mono ?_); rintro e w1 ⟨rfl, rfl⟩; exact hK _ hwq))
            all_goals exact hK _ hwq)
         · rfl)
      | (refine wpMix_guardT rfl rfl rfl ?_ ?_ <;> intro hc <;> first | (cases hc; done) | ((try cases hc); simp only [Act.put, List.setIfInBounds_toArray, List.set_cons_succ, List.set_cons_zero]))
      | (refine wpMix_guardF rfl rfl rfl ?_ ?_ <;> intro hc <;> first | (cases hc; done) | ((try cases hc); simp only [Act.put, List.setIfInBounds_toArray, List.set_cons_succ, List.set_cons_zero]))
      | refine wpMix_guardU rfl rfl rfl ?_)
    all_goals
      refine wpMix_nil ?_
      intro w4 hw4
      go_wp2
      go_ret
      refine ⟨?_, hw4⟩
      show Ending.returned (.int .u32 _) = _
      rw [← HX.out]
      refine ret_int ?_
      show a % Q * P % 4294967296 = a * ((2 ^ (b % 32).toNat : Nat) : Int) % 4294967296
      rw [← HP.out, HL.out]
      omega
  by_cases h : op = 42
  · subst h
    by_cases hz : b = 0
    · subst hz
      go_enter Try.func29, Try.ntmps29
      go_wp2_with (first
        | (go_at_call 57; (first | with_reducible refine (signed_any a _ ha0 ha1).mono ?_ | with_reducible refine (signed_any _ _ hb0 hb1).mono ?_); rintro e w1 ⟨rfl, rfl⟩)
        | (go_at_call 63; (with_reducible refine (rtruth_any _ _).mono ?_); rintro e w1 ⟨rfl, rfl⟩)
        | (go_at_call 60; (first | with_reducible refine (bitsAnd_int a b _ ha0 ha1 hb0 hb1).mono ?_ | with_reducible refine (bitsOr_int a b _ ha0 ha1 hb0 hb1).mono ?_ | with_reducible refine (bitsXor_int a b _ ha0 ha1 hb0 hb1).mono ?_); rintro e w1 ⟨rfl, rfl⟩)
        | (go_at_call 64; (with_reducible refine (upper_any _ _ _ (by omega) (by omega) (by omega) (by omega)).mono ?_); rintro e w1 ⟨rfl, rfl⟩)
        | (go_at_call 62; (with_reducible refine (floor_any _ _ _ (by omega) (by omega) (by omega) (by omega)).mono ?_); rintro e w1 ⟨rfl, rfl⟩)
        | (go_at_call 61; (with_reducible refine (power_i _ _ (by omega) (by omega)).mono ?_); rintro e w1 ⟨rfl, rfl⟩; rw [← HP.out])
        | (go_at_call 59; (with_reducible refine (of_any _ _ (by omega) (by omega)).mono ?_); rintro e w1 ⟨rfl, rfl⟩))
      all_goals
        go_ret
        refine ⟨?_, Below.refl _ _⟩
        show Ending.returned (.int .u32 _) = _
        rw [← HX.out]
        refine ret_int ?_
      all_goals rfl
    · have hb2 : 1 ≤ b := by omega
      have hsz : sg b ≠ 0 := fun e => hz ((sg_zero hb0 hb1).1 e)
      have d1 : ((sg a).tdiv (sg b)).natAbs ≤ (sg a).natAbs := by
        rw [Int.natAbs_tdiv]
        exact Nat.div_le_self _ _
      obtain ⟨d2, d3⟩ : -2147483648 ≤ (sg a).tdiv (sg b) ∧ (sg a).tdiv (sg b) ≤ 2147483648 := by omega
      clear d1
      go_enter Try.func29, Try.ntmps29
      go_wp2_with (first
        | (go_at_call 57; (first | with_reducible refine (signed_any a _ ha0 ha1).mono ?_ | with_reducible refine (signed_any _ _ hb0 hb1).mono ?_); rintro e w1 ⟨rfl, rfl⟩)
        | (go_at_call 63; (with_reducible refine (rtruth_any _ _).mono ?_); rintro e w1 ⟨rfl, rfl⟩)
        | (go_at_call 60; (first | with_reducible refine (bitsAnd_int a b _ ha0 ha1 hb0 hb1).mono ?_ | with_reducible refine (bitsOr_int a b _ ha0 ha1 hb0 hb1).mono ?_ | with_reducible refine (bitsXor_int a b _ ha0 ha1 hb0 hb1).mono ?_); rintro e w1 ⟨rfl, rfl⟩)
        | (go_at_call 64; (with_reducible refine (upper_any _ _ _ (by omega) (by omega) (by omega) (by omega)).mono ?_); rintro e w1 ⟨rfl, rfl⟩)
        | (go_at_call 62; (with_reducible refine (floor_any _ _ _ (by omega) (by omega) (by omega) (by omega)).mono ?_); rintro e w1 ⟨rfl, rfl⟩)
        | (go_at_call 61; (with_reducible refine (power_i _ _ (by omega) (by omega)).mono ?_); rintro e w1 ⟨rfl, rfl⟩; rw [← HP.out])
        | (go_at_call 59; (with_reducible refine (of_any _ _ (by omega) (by omega)).mono ?_); rintro e w1 ⟨rfl, rfl⟩))
      all_goals
        go_ret
        refine ⟨?_, Below.refl _ _⟩
        show Ending.returned (.int .u32 _) = _
        rw [← HX.out]
        refine ret_int ?_
      unfold aluP
      simp [*]
  by_cases h : op = 44
  · subst h
    by_cases hz : b = 0
    · subst hz
      go_enter Try.func29, Try.ntmps29
      go_wp2_with (first
        | (go_at_call 57; (first | with_reducible refine (signed_any a _ ha0 ha1).mono ?_ | with_reducible refine (signed_any _ _ hb0 hb1).mono ?_); rintro e w1 ⟨rfl, rfl⟩)
        | (go_at_call 63; (with_reducible refine (rtruth_any _ _).mono ?_); rintro e w1 ⟨rfl, rfl⟩)
        | (go_at_call 60; (first | with_reducible refine (bitsAnd_int a b _ ha0 ha1 hb0 hb1).mono ?_ | with_reducible refine (bitsOr_int a b _ ha0 ha1 hb0 hb1).mono ?_ | with_reducible refine (bitsXor_int a b _ ha0 ha1 hb0 hb1).mono ?_); rintro e w1 ⟨rfl, rfl⟩)
        | (go_at_call 64; (with_reducible refine (upper_any _ _ _ (by omega) (by omega) (by omega) (by omega)).mono ?_); rintro e w1 ⟨rfl, rfl⟩)
        | (go_at_call 62; (with_reducible refine (floor_any _ _ _ (by omega) (by omega) (by omega) (by omega)).mono ?_); rintro e w1 ⟨rfl, rfl⟩)
        | (go_at_call 61; (with_reducible refine (power_i _ _ (by omega) (by omega)).mono ?_); rintro e w1 ⟨rfl, rfl⟩; rw [← HP.out])
        | (go_at_call 59; (with_reducible refine (of_any _ _ (by omega) (by omega)).mono ?_); rintro e w1 ⟨rfl, rfl⟩))
      all_goals
        go_ret
        refine ⟨?_, Below.refl _ _⟩
        show Ending.returned (.int .u32 _) = _
        rw [← HX.out]
        refine ret_int ?_
      all_goals rfl
    · have hb2 : 1 ≤ b := by omega
      have hsz : sg b ≠ 0 := fun e => hz ((sg_zero hb0 hb1).1 e)
      have d1 : ((sg a).tdiv (sg b)).natAbs ≤ (sg a).natAbs := by
        rw [Int.natAbs_tdiv]
        exact Nat.div_le_self _ _
      obtain ⟨d2, d3⟩ : -2147483648 ≤ (sg a).tdiv (sg b) ∧ (sg a).tdiv (sg b) ≤ 2147483648 := by omega
      clear d1
      obtain ⟨m1, m2⟩ := mul_abs (a := (sg a).tdiv (sg b)) (b := sg b) (A := 2147483648) (B := 2147483648) (by omega) (by omega)
      have hd := Int.tmod_def (sg a) (sg b)
      have HD := Lib.hid hd
      clear hd
      go_enter Try.func29, Try.ntmps29
      go_wp2_with (first
        | (go_at_call 57; (first | with_reducible refine (signed_any a _ ha0 ha1).mono ?_ | with_reducible refine (signed_any _ _ hb0 hb1).mono ?_); rintro e w1 ⟨rfl, rfl⟩)
        | (go_at_call 63; (with_reducible refine (rtruth_any _ _).mono ?_); rintro e w1 ⟨rfl, rfl⟩)
        | (go_at_call 60; (first | with_reducible refine (bitsAnd_int a b _ ha0 ha1 hb0 hb1).mono ?_ | with_reducible refine (bitsOr_int a b _ ha0 ha1 hb0 hb1).mono ?_ | with_reducible refine (bitsXor_int a b _ ha0 ha1 hb0 hb1).mono ?_); rintro e w1 ⟨rfl, rfl⟩)
        | (go_at_call 64; (with_reducible refine (upper_any _ _ _ (by omega) (by omega) (by omega) (by omega)).mono ?_); rintro e w1 ⟨rfl, rfl⟩)
        | (go_at_call 62; (with_reducible refine (floor_any _ _ _ (by omega) (by omega) (by omega) (by omega)).mono ?_); rintro e w1 ⟨rfl, rfl⟩)
        | (go_at_call 61; (with_reducible refine (power_i _ _ (by omega) (by omega)).mono ?_); rintro e w1 ⟨rfl, rfl⟩; rw [← HP.out])
        | (go_at_call 59; (with_reducible refine (of_any _ _ (by omega) (by omega)).mono ?_); rintro e w1 ⟨rfl, rfl⟩))
      all_goals
        go_ret
        refine ⟨?_, Below.refl _ _⟩
        show Ending.returned (.int .u32 _) = _
        rw [← HX.out]
        refine ret_int ?_
      show (sg a - (sg a).tdiv (sg b) * sg b) % 4294967296 = if b = 0 then a else (sg a).tmod (sg b) % 4294967296
      rw [if_neg hz, HD.out, Int.mul_comm]
  by_cases h : op = 43
  · subst h
    by_cases hz : b = 0
    · subst hz
      go_enter Try.func29, Try.ntmps29
      go_wp2_with (first
        | (go_at_call 57; (first | with_reducible refine (signed_any a _ ha0 ha1).mono ?_ | with_reducible refine (signed_any _ _ hb0 hb1).mono ?_); rintro e w1 ⟨rfl, rfl⟩)
        | (go_at_call 63; (with_reducible refine (rtruth_any _ _).mono ?_); rintro e w1 ⟨rfl, rfl⟩)
        | (go_at_call 60; (first | with_reducible refine (bitsAnd_int a b _ ha0 ha1 hb0 hb1).mono ?_ | with_reducible refine (bitsOr_int a b _ ha0 ha1 hb0 hb1).mono ?_ | with_reducible refine (bitsXor_int a b _ ha0 ha1 hb0 hb1).mono ?_); rintro e w1 ⟨rfl, rfl⟩)
        | (go_at_call 64; (with_reducible refine (upper_any _ _ _ (by omega) (by omega) (by omega) (by omega)).mono ?_); rintro e w1 ⟨rfl, rfl⟩)
        | (go_at_call 62; (with_reducible refine (floor_any _ _ _ (by omega) (by omega) (by omega) (by omega)).mono ?_); rintro e w1 ⟨rfl, rfl⟩)
        | (go_at_call 61; (with_reducible refine (power_i _ _ (by omega) (by omega)).mono ?_); rintro e w1 ⟨rfl, rfl⟩; rw [← HP.out])
        | (go_at_call 59; (with_reducible refine (of_any _ _ (by omega) (by omega)).mono ?_); rintro e w1 ⟨rfl, rfl⟩))
      all_goals
        go_ret
        refine ⟨?_, Below.refl _ _⟩
        show Ending.returned (.int .u32 _) = _
        rw [← HX.out]
        refine ret_int ?_
      all_goals rfl
    · have hb2 : 1 ≤ b := by omega
      have hsz : sg b ≠ 0 := fun e => hz ((sg_zero hb0 hb1).1 e)
      have d0 := Int.ediv_nonneg ha0 (show 0 ≤ b by omega)
      have d1 := Int.ediv_le_self b ha0
      go_enter Try.func29, Try.ntmps29
      go_wp2_with (first
        | (go_at_call 57; (first | with_reducible refine (signed_any a _ ha0 ha1).mono ?_ | with_reducible refine (signed_any _ _ hb0 hb1).mono ?_); rintro e w1 ⟨rfl, rfl⟩)
        | (go_at_call 63; (with_reducible refine (rtruth_any _ _).mono ?_); rintro e w1 ⟨rfl, rfl⟩)
        | (go_at_call 60; (first | with_reducible refine (bitsAnd_int a b _ ha0 ha1 hb0 hb1).mono ?_ | with_reducible refine (bitsOr_int a b _ ha0 ha1 hb0 hb1).mono ?_ | with_reducible refine (bitsXor_int a b _ ha0 ha1 hb0 hb1).mono ?_); rintro e w1 ⟨rfl, rfl⟩)
        | (go_at_call 64; (with_reducible refine (upper_any _ _ _ (by omega) (by omega) (by omega) (by omega)).mono ?_); rintro e w1 ⟨rfl, rfl⟩)
        | (go_at_call 62; (with_reducible refine (floor_any _ _ _ (by omega) (by omega) (by omega) (by omega)).mono ?_); rintro e w1 ⟨rfl, rfl⟩)
        | (go_at_call 61; (with_reducible refine (power_i _ _ (by omega) (by omega)).mono ?_); rintro e w1 ⟨rfl, rfl⟩; rw [← HP.out])
        | (go_at_call 59; (with_reducible refine (of_any _ _ (by omega) (by omega)).mono ?_); rintro e w1 ⟨rfl, rfl⟩))
      all_goals
        go_ret
        refine ⟨?_, Below.refl _ _⟩
        show Ending.returned (.int .u32 _) = _
        rw [← HX.out]
        refine ret_int ?_
      show a / b % 4294967296 = if b = 0 then 4294967295 else a / b
      rw [if_neg hz]
      omega
  by_cases h : op = 45
  · subst h
    by_cases hz : b = 0
    · subst hz
      go_enter Try.func29, Try.ntmps29
      go_wp2_with (first
        | (go_at_call 57; (first | with_reducible refine (signed_any a _ ha0 ha1).mono ?_ | with_reducible refine (signed_any _ _ hb0 hb1).mono ?_); rintro e w1 ⟨rfl, rfl⟩)
        | (go_at_call 63; (with_reducible refine (rtruth_any _ _).mono ?_); rintro e w1 ⟨rfl, rfl⟩)
        | (go_at_call 60; (first | with_reducible refine (bitsAnd_int a b _ ha0 ha1 hb0 hb1).mono ?_ | with_reducible refine (bitsOr_int a b _ ha0 ha1 hb0 hb1).mono ?_ | with_reducible refine (bitsXor_int a b _ ha0 ha1 hb0 hb1).mono ?_); rintro e w1 ⟨rfl, rfl⟩)
        | (go_at_call 64; (with_reducible refine (upper_any _ _ _ (by omega) (by omega) (by omega) (by omega)).mono ?_); rintro e w1 ⟨rfl, rfl⟩)
        | (go_at_call 62; (with_reducible refine (floor_any _ _ _ (by omega) (by omega) (by omega) (by omega)).mono ?_); rintro e w1 ⟨rfl, rfl⟩)
        | (go_at_call 61; (with_reducible refine (power_i _ _ (by omega) (by omega)).mono ?_); rintro e w1 ⟨rfl, rfl⟩; rw [← HP.out])
        | (go_at_call 59; (with_reducible refine (of_any _ _ (by omega) (by omega)).mono ?_); rintro e w1 ⟨rfl, rfl⟩))
      all_goals
        go_ret
        refine ⟨?_, Below.refl _ _⟩
        show Ending.returned (.int .u32 _) = _
        rw [← HX.out]
        refine ret_int ?_
      all_goals rfl
    · have hb2 : 1 ≤ b := by omega
      have hsz : sg b ≠ 0 := fun e => hz ((sg_zero hb0 hb1).1 e)
      have d0 := Int.emod_nonneg a hz
      have d1 := Int.emod_lt_of_pos a (show 0 < b by omega)
      go_enter Try.func29, Try.ntmps29
      go_wp2_with (first
        | (go_at_call 57; (first | with_reducible refine (signed_any a _ ha0 ha1).mono ?_ | with_reducible refine (signed_any _ _ hb0 hb1).mono ?_); rintro e w1 ⟨rfl, rfl⟩)
        | (go_at_call 63; (with_reducible refine (rtruth_any _ _).mono ?_); rintro e w1 ⟨rfl, rfl⟩)
        | (go_at_call 60; (first | with_reducible refine (bitsAnd_int a b _ ha0 ha1 hb0 hb1).mono ?_ | with_reducible refine (bitsOr_int a b _ ha0 ha1 hb0 hb1).mono ?_ | with_reducible refine (bitsXor_int a b _ ha0 ha1 hb0 hb1).mono ?_); rintro e w1 ⟨rfl, rfl⟩)
        | (go_at_call 64; (with_reducible refine (upper_any _ _ _ (by omega) (by omega) (by omega) (by omega)).mono ?_); rintro e w1 ⟨rfl, rfl⟩)
        | (go_at_call 62; (with_reducible refine (floor_any _ _ _ (by omega) (by omega) (by omega) (by omega)).mono ?_); rintro e w1 ⟨rfl, rfl⟩)
        | (go_at_call 61; (with_reducible refine (power_i _ _ (by omega) (by omega)).mono ?_); rintro e w1 ⟨rfl, rfl⟩; rw [← HP.out])
        | (go_at_call 59; (with_reducible refine (of_any _ _ (by omega) (by omega)).mono ?_); rintro e w1 ⟨rfl, rfl⟩))
      all_goals
        go_ret
        refine ⟨?_, Below.refl _ _⟩
        show Ending.returned (.int .u32 _) = _
        rw [← HX.out]
        refine ret_int ?_
      show a % b % 4294967296 = if b = 0 then a else a % b
      rw [if_neg hz]
      omega
  ·
    go_enter Try.func29, Try.ntmps29
    go_wp2_with (first
      | (go_at_call 57; (first | with_reducible refine (signed_any a _ ha0 ha1).mono ?_ | with_reducible refine (signed_any _ _ hb0 hb1).mono ?_); rintro e w1 ⟨rfl, rfl⟩)
      | (go_at_call 63; (with_reducible refine (rtruth_any _ _).mono ?_); rintro e w1 ⟨rfl, rfl⟩)
      | (go_at_call 60; (first | with_reducible refine (bitsAnd_int a b _ ha0 ha1 hb0 hb1).mono ?_ | with_reducible refine (bitsOr_int a b _ ha0 ha1 hb0 hb1).mono ?_ | with_reducible refine (bitsXor_int a b _ ha0 ha1 hb0 hb1).mono ?_); rintro e w1 ⟨rfl, rfl⟩)
      | (go_at_call 64; (with_reducible refine (upper_any _ _ _ (by omega) (by omega) (by omega) (by omega)).mono ?_); rintro e w1 ⟨rfl, rfl⟩)
      | (go_at_call 62; (with_reducible refine (floor_any _ _ _ (by omega) (by omega) (by omega) (by omega)).mono ?_); rintro e w1 ⟨rfl, rfl⟩)
      | (go_at_call 61; (with_reducible refine (power_i _ _ (by omega) (by omega)).mono ?_); rintro e w1 ⟨rfl, rfl⟩; rw [← HP.out])
      | (go_at_call 59; (with_reducible refine (of_any _ _ (by omega) (by omega)).mono ?_); rintro e w1 ⟨rfl, rfl⟩))
    all_goals
      go_ret
      refine ⟨?_, Below.refl _ _⟩
      show Ending.returned (.int .u32 _) = _
      rw [← HX.out]
      refine ret_int ?_
    unfold aluP
    simp only [*, if_false]
set_option maxRecDepth 100000 in
theorem refHolds_any (op a b : Int) (w : World) (ha0 : 0 ≤ a) (ha1 : a ≤ 4294967295) (hb0 : 0 ≤ b) (hb1 : b ≤ 4294967295) :
    Calls Try.prog 30 #[.int .i64 op, .int .u32 a, .int .u32 b] w fun e w' => e = .returned (.bool (holdsP op a b)) ∧ w = w' := by
  generalize hX : holdsP op a b = X
  have HX := Lib.hid hX
  clear hX
  by_cases h : op = 5
  · subst h
    go_enter Try.func30, Try.ntmps30
    go_wp2_with (go_at_call 57; (first | with_reducible refine (signed_any a _ ha0 ha1).mono ?_ | with_reducible refine (signed_any _ _ hb0 hb1).mono ?_); rintro e w1 ⟨rfl, rfl⟩)
    go_ret
    refine ⟨?_, rfl⟩
    rw [← HX.out]
    refine ret_bool ?_
    rw [Bool.eq_iff_iff]
    simp [holdsP]
  by_cases h : op = 6
  · subst h
    go_enter Try.func30, Try.ntmps30
    go_wp2_with (go_at_call 57; (first | with_reducible refine (signed_any a _ ha0 ha1).mono ?_ | with_reducible refine (signed_any _ _ hb0 hb1).mono ?_); rintro e w1 ⟨rfl, rfl⟩)
    go_ret
    refine ⟨?_, rfl⟩
    rw [← HX.out]
    refine ret_bool ?_
    rw [Bool.eq_iff_iff]
    simp [holdsP]
  by_cases h : op = 7
  · subst h
    go_enter Try.func30, Try.ntmps30
    go_wp2_with (go_at_call 57; (first | with_reducible refine (signed_any a _ ha0 ha1).mono ?_ | with_reducible refine (signed_any _ _ hb0 hb1).mono ?_); rintro e w1 ⟨rfl, rfl⟩)
    go_ret
    refine ⟨?_, rfl⟩
    rw [← HX.out]
    refine ret_bool ?_
    rw [Bool.eq_iff_iff]
    simp [holdsP]
  by_cases h : op = 8
  · subst h
    go_enter Try.func30, Try.ntmps30
    go_wp2_with (go_at_call 57; (first | with_reducible refine (signed_any a _ ha0 ha1).mono ?_ | with_reducible refine (signed_any _ _ hb0 hb1).mono ?_); rintro e w1 ⟨rfl, rfl⟩)
    go_ret
    refine ⟨?_, rfl⟩
    rw [← HX.out]
    refine ret_bool ?_
    rw [Bool.eq_iff_iff]
    simp [holdsP]
  by_cases h : op = 9
  · subst h
    go_enter Try.func30, Try.ntmps30
    go_wp2_with (go_at_call 57; (first | with_reducible refine (signed_any a _ ha0 ha1).mono ?_ | with_reducible refine (signed_any _ _ hb0 hb1).mono ?_); rintro e w1 ⟨rfl, rfl⟩)
    go_ret
    refine ⟨?_, rfl⟩
    rw [← HX.out]
    refine ret_bool ?_
    rw [Bool.eq_iff_iff]
    simp [holdsP]
  by_cases h : op = 10
  · subst h
    go_enter Try.func30, Try.ntmps30
    go_wp2_with (go_at_call 57; (first | with_reducible refine (signed_any a _ ha0 ha1).mono ?_ | with_reducible refine (signed_any _ _ hb0 hb1).mono ?_); rintro e w1 ⟨rfl, rfl⟩)
    go_ret
    refine ⟨?_, rfl⟩
    rw [← HX.out]
    refine ret_bool ?_
    rw [Bool.eq_iff_iff]
    simp [holdsP]
  ·
    go_enter Try.func30, Try.ntmps30
    go_wp2_with (go_at_call 57; (first | with_reducible refine (signed_any a _ ha0 ha1).mono ?_ | with_reducible refine (signed_any _ _ hb0 hb1).mono ?_); rintro e w1 ⟨rfl, rfl⟩)
    go_ret
    refine ⟨?_, rfl⟩
    rw [← HX.out]
    refine ret_bool ?_
    unfold holdsP
    simp [*]
end Go.Proofs.Ytapgojgcmlnbgab
