/- The walks of the reference of reckoning: Signed, floor, truth, bits, upper. -/
import Derived.Test.YtapgojgcmlnbgabRef1Of
import Derived.Test.YtapgojgcmlnbgabWordPlain
namespace Go.Proofs.Ytapgojgcmlnbgab
open Go.RowKit

theorem signed_any (a : Int) (w : World) (h0 : 0 ≤ a) (h1 : a ≤ 4294967295) :
    Calls Try.prog 57 #[.int .u32 a] w fun e w' => e = .returned (.int .i64 (sg a)) ∧ w = w' := by
  generalize hx : sg a = x
  have Hx := Lib.hid hx
  clear hx
  go_enter Try.func57, Try.ntmps57
  go_wp2
  all_goals
    go_ret
    refine ⟨ret_int ?_, rfl⟩
    rw [← Hx.out]
    unfold sg
    split <;> omega

theorem rtruth_any (b : Bool) (w : World) : Calls Try.prog 63 #[.bool b] w fun e w' => e = .returned (.int .u32 (if b = true then 1 else 0)) ∧ w = w' := by
  cases b
  all_goals
    go_enter Try.func63, Try.ntmps63
    go_wp2
    go_ret
    exact ⟨rfl, rfl⟩

theorem tmod_cases (a b : Int) (hb : 1 ≤ b) : (a.tmod b = a % b ∧ (0 ≤ a.tmod b)) ∨ (a.tmod b = a % b - b ∧ a.tmod b < 0) := by
  have h1 := Int.emod_nonneg a (show b ≠ 0 by omega)
  have h2 := Int.emod_lt_of_pos a (show 0 < b by omega)
  rw [Int.tmod_eq_emod]
  split
  · left; omega
  · right
    rw [Int.natAbs_of_nonneg (by omega)]
    omega

set_option maxRecDepth 100000 in
theorem floor_any (a b : Int) (w : World) (h0 : -4611686018427387904 ≤ a) (h1 : a ≤ 4611686018427387904) (h2 : 1 ≤ b) (h3 : b ≤ 4294967296) :
    Calls Try.prog 62 #[.int .i64 a, .int .i64 b] w fun e w' => e = .returned (.int .i64 (a / b)) ∧ w = w' := by
  have e1 := Int.emod_nonneg a (show b ≠ 0 by omega)
  have e2 := Int.emod_lt_of_pos a (show 0 < b by omega)
  have e3 : (a - a % b).tdiv b = a / b := by
    rw [show a - a % b = a / b * b by have := Int.mul_ediv_add_emod a b; rw [Int.mul_comm]; omega]
    exact Int.mul_tdiv_cancel _ (by omega)
  have hq : -4611686018427387904 ≤ a / b ∧ a / b ≤ 4611686018427387904 := by
    rcases Int.lt_or_le a 0 with ha | ha
    · have k1 : a ≤ a / b := Int.le_ediv_of_mul_le (by omega) (by
        have := Int.mul_le_mul_of_nonpos_left (show a ≤ 0 by omega) h2
        rw [Int.mul_one] at this
        exact this)
      have k2 := Int.ediv_neg_of_neg_of_pos ha (show 0 < b by omega)
      omega
    · have k1 := Int.ediv_nonneg ha (show 0 ≤ b by omega)
      have k2 := Int.ediv_le_self b ha
      omega
  obtain ⟨q1, q2⟩ := hq
  rcases tmod_cases a b h2 with ⟨t1, t2⟩ | ⟨t1, t2⟩
  · generalize a / b = q at e3 q1 q2 ⊢
    generalize a % b = r at e1 e2 e3 t1
    go_enter Try.func62, Try.ntmps62
    go_wp2
    all_goals
      go_ret
      exact ⟨rfl, rfl⟩
  · generalize a / b = q at e3 q1 q2 ⊢
    generalize a % b = r at e1 e2 e3 t1
    have e4 : r - b + b = r := by omega
    go_enter Try.func62, Try.ntmps62
    go_wp2
    all_goals
      go_ret
      exact ⟨rfl, rfl⟩

theorem upper_law (a b : Int) : (a * (b / 65536) + a * (b % 65536) / 65536) / 65536 = a * b / 4294967296 := by
  have h : a * b = a * (b % 65536) + a * (b / 65536) * 65536 := by
    rw [Int.mul_assoc, ← Int.mul_add]
    congr 1
    omega
  rw [h, show (4294967296 : Int) = 65536 * 65536 from rfl, ← Int.ediv_ediv_of_nonneg (by omega), Int.add_mul_ediv_right _ _ (by omega), Int.add_comm]
set_option maxRecDepth 100000 in
theorem upper_any (a b : Int) (w : World) (h0 : -2147483648 ≤ a) (h1 : a ≤ 4294967295) (h2 : 0 ≤ b) (h3 : b ≤ 4294967295) :
    Calls Try.prog 64 #[.int .i64 a, .int .i64 b] w fun e w' => e = .returned (.int .u32 (a * b / 4294967296 % 4294967296)) ∧ w = w' := by
  have hl := upper_law a b
  obtain ⟨m1, m2⟩ := mul_abs (a := a) (b := b / 65536) (A := 4294967296) (B := 65536) (by omega) (by omega)
  obtain ⟨m3, m4⟩ := mul_abs (a := a) (b := b % 65536) (A := 4294967296) (B := 65536) (by omega) (by omega)
  rw [← hl]
  clear hl
  generalize hb1 : b / 65536 = b1 at m1 m2 ⊢
  generalize hb2 : b % 65536 = b2 at m3 m4 ⊢
  generalize hp : a * b1 = p at m1 m2 ⊢
  generalize hq : a * b2 = q at m3 m4 ⊢
  go_enter Try.func64, Try.ntmps64
  go_wp2_with (first
    | (go_at_call 62; (with_reducible refine (floor_any _ _ _ (by omega) (by omega) (by omega) (by omega)).mono ?_); rintro e w1 ⟨rfl, rfl⟩)
    | (go_at_call 59; (with_reducible refine (of_any _ _ (by omega) (by omega)).mono ?_); rintro e w1 ⟨rfl, rfl⟩))
  go_ret
  exact ⟨rfl, rfl⟩

theorem bit_step (x i : Nat) : x % 2 ^ (i + 1) = x % 2 ^ i + (if x.testBit i = true then 2 ^ i else 0) := by
  rw [Nat.pow_succ, Nat.mod_mul, Nat.testBit_eq_decide_div_mod_eq]
  rcases Nat.mod_two_eq_zero_or_one (x / 2 ^ i) with h | h <;> simp [h]

set_option maxRecDepth 100000 in
set_option maxHeartbeats 1000000 in
theorem bitsAnd_any (a b : Nat) (w : World) (ha : a < 4294967296) (hb : b < 4294967296) :
    Calls Try.prog 60 #[.int .i64 37, .int .u32 a, .int .u32 b] w fun e w' => e = .returned (.int .u32 ((a &&& b : Nat) : Int)) ∧ w = w' := by
  have hF : a &&& b < 2 ^ 32 := Nat.and_lt_two_pow _ (by omega)
  have hbit : ∀ i, (a &&& b).testBit i = (a.testBit i && b.testBit i) := fun i => by rw [Nat.testBit_and]
  generalize a &&& b = F at hF hbit ⊢
  have Hbit := Lib.hid hbit
  clear hbit
  go_enter Try.func60, Try.ntmps60
  go_wp2
  go_loopw [7, 8, 9, 10] (fun v7 v8 v9 v10 wr => ∃ i : Nat, v7 = .int .i64 ((a / 2 ^ i : Nat) : Int) ∧ v8 = .int .i64 ((b / 2 ^ i : Nat) : Int) ∧ v9 = .int .i64 ((F % 2 ^ i : Nat) : Int) ∧ v10 = .int .i64 i ∧ i ≤ 32 ∧ wr = w) (fun _ _ _ v _ => 32 - (intOf v).toNat)
  case atStart => exact ⟨0, by simp, by simp, by simp [Nat.mod_one], rfl, by omega, rfl⟩
  case round =>
    obtain ⟨i, rfl, rfl, rfl, rfl, hi, rfl⟩ := hrel
    by_cases hlt : i < 32
    · have s1 := bit_step F i
      rw [Hbit.out i, Nat.testBit_eq_decide_div_mod_eq, Nat.testBit_eq_decide_div_mod_eq] at s1
      have d1 : a / 2 ^ (i + 1) = a / 2 ^ i / 2 := by rw [Nat.pow_succ, Nat.div_div_eq_div_mul]
      have d2 : b / 2 ^ (i + 1) = b / 2 ^ i / 2 := by rw [Nat.pow_succ, Nat.div_div_eq_div_mul]
      have x1 : a / 2 ^ i ≤ a := Nat.div_le_self _ _
      have x2 : b / 2 ^ i ≤ b := Nat.div_le_self _ _
      have x3 : F % 2 ^ i < 2 ^ i := Nat.mod_lt _ (Nat.two_pow_pos i)
      have x4 : 2 ^ i ≤ 2 ^ 31 := Nat.pow_le_pow_right (by omega) (by omega)
      have D1 := Lib.hid d1
      have D2 := Lib.hid d2
      clear d1 d2
      generalize hx : a / 2 ^ i = x at x1 s1 ⊢
      generalize hy : b / 2 ^ i = y at x2 s1 ⊢
      generalize hz : F % 2 ^ i = z at x3 s1 ⊢
      generalize hP : 2 ^ i = P at x3 x4 s1
      have S1 := Lib.hid s1
      have HX := Lib.hid hx
      have HY := Lib.hid hy
      have HP := Lib.hid hP
      clear s1 hx hy hz hP
      have hx2 : (x % 2 = 0 ∧ (x : Int) % 2 = 0) ∨ (x % 2 = 1 ∧ (x : Int) % 2 = 1) := by omega
      have hy2 : (y % 2 = 0 ∧ (y : Int) % 2 = 0) ∨ (y % 2 = 1 ∧ (y : Int) % 2 = 1) := by omega
      rcases hx2 with ⟨hx, hx'⟩ | ⟨hx, hx'⟩ <;> rcases hy2 with ⟨hy, hy'⟩ | ⟨hy, hy'⟩
      all_goals
        have S2 := S1.out
        rw [hx, hy] at S2
        have S3 := Lib.hid S2
        clear S2 hx hy
        go_wp2_with (go_at_call 61; (with_reducible refine (power_any i _ (by omega)).mono ?_); rintro e w1 ⟨rfl, rfl⟩; rw [HP.out])
        go_roundw
        case rel => exact ⟨i + 1, by rw [D1.out, HX.out]; rfl, by rw [D2.out, HY.out]; rfl, by rw [S3.out]; simp, by go_num, by omega, trivial⟩
        case measure => simp [intOf]; omega
    · obtain rfl : i = 32 := by omega
      rw [Nat.mod_eq_of_lt hF]
      go_wp2_with (go_at_call 59; (with_reducible refine (of_any _ _ (by omega) (by omega)).mono ?_); rintro e w1 ⟨rfl, rfl⟩)
      go_ret
      exact ⟨ret_int (by omega), rfl⟩
set_option maxRecDepth 100000 in
set_option maxHeartbeats 1000000 in
theorem bitsOr_any (a b : Nat) (w : World) (ha : a < 4294967296) (hb : b < 4294967296) :
    Calls Try.prog 60 #[.int .i64 36, .int .u32 a, .int .u32 b] w fun e w' => e = .returned (.int .u32 ((a ||| b : Nat) : Int)) ∧ w = w' := by
  have hF : a ||| b < 2 ^ 32 := Nat.or_lt_two_pow (by omega) (by omega)
  have hbit : ∀ i, (a ||| b).testBit i = (a.testBit i || b.testBit i) := fun i => by rw [Nat.testBit_or]
  generalize a ||| b = F at hF hbit ⊢
  have Hbit := Lib.hid hbit
  clear hbit
  go_enter Try.func60, Try.ntmps60
  go_wp2
  go_loopw [7, 8, 9, 10] (fun v7 v8 v9 v10 wr => ∃ i : Nat, v7 = .int .i64 ((a / 2 ^ i : Nat) : Int) ∧ v8 = .int .i64 ((b / 2 ^ i : Nat) : Int) ∧ v9 = .int .i64 ((F % 2 ^ i : Nat) : Int) ∧ v10 = .int .i64 i ∧ i ≤ 32 ∧ wr = w) (fun _ _ _ v _ => 32 - (intOf v).toNat)
  case atStart => exact ⟨0, by simp, by simp, by simp [Nat.mod_one], rfl, by omega, rfl⟩
  case round =>
    obtain ⟨i, rfl, rfl, rfl, rfl, hi, rfl⟩ := hrel
    by_cases hlt : i < 32
    · have s1 := bit_step F i
      rw [Hbit.out i, Nat.testBit_eq_decide_div_mod_eq, Nat.testBit_eq_decide_div_mod_eq] at s1
      have d1 : a / 2 ^ (i + 1) = a / 2 ^ i / 2 := by rw [Nat.pow_succ, Nat.div_div_eq_div_mul]
      have d2 : b / 2 ^ (i + 1) = b / 2 ^ i / 2 := by rw [Nat.pow_succ, Nat.div_div_eq_div_mul]
      have x1 : a / 2 ^ i ≤ a := Nat.div_le_self _ _
      have x2 : b / 2 ^ i ≤ b := Nat.div_le_self _ _
      have x3 : F % 2 ^ i < 2 ^ i := Nat.mod_lt _ (Nat.two_pow_pos i)
      have x4 : 2 ^ i ≤ 2 ^ 31 := Nat.pow_le_pow_right (by omega) (by omega)
      have D1 := Lib.hid d1
      have D2 := Lib.hid d2
      clear d1 d2
      generalize hx : a / 2 ^ i = x at x1 s1 ⊢
      generalize hy : b / 2 ^ i = y at x2 s1 ⊢
      generalize hz : F % 2 ^ i = z at x3 s1 ⊢
      generalize hP : 2 ^ i = P at x3 x4 s1
      have S1 := Lib.hid s1
      have HX := Lib.hid hx
      have HY := Lib.hid hy
      have HP := Lib.hid hP
      clear s1 hx hy hz hP
      have hx2 : (x % 2 = 0 ∧ (x : Int) % 2 = 0) ∨ (x % 2 = 1 ∧ (x : Int) % 2 = 1) := by omega
      have hy2 : (y % 2 = 0 ∧ (y : Int) % 2 = 0) ∨ (y % 2 = 1 ∧ (y : Int) % 2 = 1) := by omega
      rcases hx2 with ⟨hx, hx'⟩ | ⟨hx, hx'⟩ <;> rcases hy2 with ⟨hy, hy'⟩ | ⟨hy, hy'⟩
      all_goals
        have S2 := S1.out
        rw [hx, hy] at S2
        have S3 := Lib.hid S2
        clear S2 hx hy
        go_wp2_with (go_at_call 61; (with_reducible refine (power_any i _ (by omega)).mono ?_); rintro e w1 ⟨rfl, rfl⟩; rw [HP.out])
        go_roundw
        case rel => exact ⟨i + 1, by rw [D1.out, HX.out]; rfl, by rw [D2.out, HY.out]; rfl, by rw [S3.out]; simp, by go_num, by omega, trivial⟩
        case measure => simp [intOf]; omega
    · obtain rfl : i = 32 := by omega
      rw [Nat.mod_eq_of_lt hF]
      go_wp2_with (go_at_call 59; (with_reducible refine (of_any _ _ (by omega) (by omega)).mono ?_); rintro e w1 ⟨rfl, rfl⟩)
      go_ret
      exact ⟨ret_int (by omega), rfl⟩
set_option maxRecDepth 100000 in
set_option maxHeartbeats 1000000 in
theorem bitsXor_any (a b : Nat) (w : World) (ha : a < 4294967296) (hb : b < 4294967296) :
    Calls Try.prog 60 #[.int .i64 33, .int .u32 a, .int .u32 b] w fun e w' => e = .returned (.int .u32 ((a ^^^ b : Nat) : Int)) ∧ w = w' := by
  have hF : a ^^^ b < 2 ^ 32 := Nat.xor_lt_two_pow (by omega) (by omega)
  have hbit : ∀ i, (a ^^^ b).testBit i = (a.testBit i ^^ b.testBit i) := fun i => by rw [Nat.testBit_xor]
  generalize a ^^^ b = F at hF hbit ⊢
  have Hbit := Lib.hid hbit
  clear hbit
  go_enter Try.func60, Try.ntmps60
  go_wp2
  go_loopw [7, 8, 9, 10] (fun v7 v8 v9 v10 wr => ∃ i : Nat, v7 = .int .i64 ((a / 2 ^ i : Nat) : Int) ∧ v8 = .int .i64 ((b / 2 ^ i : Nat) : Int) ∧ v9 = .int .i64 ((F % 2 ^ i : Nat) : Int) ∧ v10 = .int .i64 i ∧ i ≤ 32 ∧ wr = w) (fun _ _ _ v _ => 32 - (intOf v).toNat)
  case atStart => exact ⟨0, by simp, by simp, by simp [Nat.mod_one], rfl, by omega, rfl⟩
  case round =>
    obtain ⟨i, rfl, rfl, rfl, rfl, hi, rfl⟩ := hrel
    by_cases hlt : i < 32
    · have s1 := bit_step F i
      rw [Hbit.out i, Nat.testBit_eq_decide_div_mod_eq, Nat.testBit_eq_decide_div_mod_eq] at s1
      have d1 : a / 2 ^ (i + 1) = a / 2 ^ i / 2 := by rw [Nat.pow_succ, Nat.div_div_eq_div_mul]
      have d2 : b / 2 ^ (i + 1) = b / 2 ^ i / 2 := by rw [Nat.pow_succ, Nat.div_div_eq_div_mul]
      have x1 : a / 2 ^ i ≤ a := Nat.div_le_self _ _
      have x2 : b / 2 ^ i ≤ b := Nat.div_le_self _ _
      have x3 : F % 2 ^ i < 2 ^ i := Nat.mod_lt _ (Nat.two_pow_pos i)
      have x4 : 2 ^ i ≤ 2 ^ 31 := Nat.pow_le_pow_right (by omega) (by omega)
      have D1 := Lib.hid d1
      have D2 := Lib.hid d2
      clear d1 d2
      generalize hx : a / 2 ^ i = x at x1 s1 ⊢
      generalize hy : b / 2 ^ i = y at x2 s1 ⊢
      generalize hz : F % 2 ^ i = z at x3 s1 ⊢
      generalize hP : 2 ^ i = P at x3 x4 s1
      have S1 := Lib.hid s1
      have HX := Lib.hid hx
      have HY := Lib.hid hy
      have HP := Lib.hid hP
      clear s1 hx hy hz hP
      have hx2 : (x % 2 = 0 ∧ (x : Int) % 2 = 0) ∨ (x % 2 = 1 ∧ (x : Int) % 2 = 1) := by omega
      have hy2 : (y % 2 = 0 ∧ (y : Int) % 2 = 0) ∨ (y % 2 = 1 ∧ (y : Int) % 2 = 1) := by omega
      rcases hx2 with ⟨hx, hx'⟩ | ⟨hx, hx'⟩ <;> rcases hy2 with ⟨hy, hy'⟩ | ⟨hy, hy'⟩
      all_goals
        have S2 := S1.out
        rw [hx, hy] at S2
        have S3 := Lib.hid S2
        clear S2 hx hy
        go_wp2_with (go_at_call 61; (with_reducible refine (power_any i _ (by omega)).mono ?_); rintro e w1 ⟨rfl, rfl⟩; rw [HP.out])
        go_roundw
        case rel => exact ⟨i + 1, by rw [D1.out, HX.out]; rfl, by rw [D2.out, HY.out]; rfl, by rw [S3.out]; simp, by go_num, by omega, trivial⟩
        case measure => simp [intOf]; omega
    · obtain rfl : i = 32 := by omega
      rw [Nat.mod_eq_of_lt hF]
      go_wp2_with (go_at_call 59; (with_reducible refine (of_any _ _ (by omega) (by omega)).mono ?_); rintro e w1 ⟨rfl, rfl⟩)
      go_ret
      exact ⟨ret_int (by omega), rfl⟩
end Go.Proofs.Ytapgojgcmlnbgab
