/- What an operation of words comes to, in plain Lean. -/
import Derived.WalkKit
namespace Go.Proofs.Ytapgojgcmlnbgab
open Go.RowKit
/-- A word as a signed number. -/
def sg (a : Int) : Int := if a < 2147483648 then a else a - 4294967296
def aluP (op a b : Int) : Int :=
  if op = 28 then (a + b) % 4294967296
  else if op = 29 then (a - b) % 4294967296
  else if op = 37 then bits .and .u32 a b
  else if op = 36 then bits .or .u32 a b
  else if op = 33 then bits .xor .u32 a b
  else if op = 30 then a * ((2 ^ (b % 32).toNat : Nat) : Int) % 4294967296
  else if op = 34 then a / ((2 ^ (b % 32).toNat : Nat) : Int)
  else if op = 35 then sg a / ((2 ^ (b % 32).toNat : Nat) : Int) % 4294967296
  else if op = 31 then (if sg a < sg b then 1 else 0)
  else if op = 32 then (if a < b then 1 else 0)
  else if op = 38 then a * b % 4294967296
  else if op = 39 then sg a * sg b / 4294967296 % 4294967296
  else if op = 40 then sg a * b / 4294967296 % 4294967296
  else if op = 41 then a * b / 4294967296
  else if op = 42 then (if b = 0 then 4294967295 else (sg a).tdiv (sg b) % 4294967296)
  else if op = 44 then (if b = 0 then a else (sg a).tmod (sg b) % 4294967296)
  else if op = 43 then (if b = 0 then 4294967295 else a / b)
  else if op = 45 then (if b = 0 then a else a % b)
  else 0
def holdsP (op a b : Int) : Bool :=
  if op = 5 then decide (a = b) else if op = 6 then decide (a ≠ b) else if op = 7 then decide (sg a < sg b) else if op = 8 then decide (sg b ≤ sg a)
  else if op = 9 then decide (a < b) else if op = 10 then decide (b ≤ a) else false
theorem sg_lo {a : Int} (h0 : 0 ≤ a) (h1 : a ≤ 4294967295) : -2147483648 ≤ sg a := by unfold sg; split <;> omega
theorem sg_hi {a : Int} (h0 : 0 ≤ a) (h1 : a ≤ 4294967295) : sg a ≤ 2147483647 := by unfold sg; split <;> omega
theorem wrap32_sg {a : Int} (h0 : 0 ≤ a) (h1 : a ≤ 4294967295) : wrap32 a = sg a := by unfold sg wrap32; split <;> omega
theorem sg_mod {a : Int} (h0 : 0 ≤ a) (h1 : a ≤ 4294967295) : sg a % 4294967296 = a := by unfold sg; split <;> omega
theorem and_u32 (a b : Nat) (ha : a < 4294967296) (hb : b < 4294967296) : bits .and .u32 (a : Int) (b : Int) = ((a &&& b : Nat) : Int) := by
  have hx : a &&& b < 2 ^ 32 := Nat.and_lt_two_pow _ (by omega)
  have h1 : (BitVec.ofInt 32 (a : Int)).toNat = a := by
    rw [BitVec.ofInt_natCast, BitVec.toNat_ofNat]; exact Nat.mod_eq_of_lt (by omega)
  have h2 : (BitVec.ofInt 32 (b : Int)).toNat = b := by
    rw [BitVec.ofInt_natCast, BitVec.toNat_ofNat]; exact Nat.mod_eq_of_lt (by omega)
  show IntKind.u32.wrap ((BitVec.ofInt 32 (a : Int) &&& BitVec.ofInt 32 (b : Int)).toNat : Int) = _
  rw [BitVec.toNat_and, h1, h2, IntKind.wrap_u32]
  omega
theorem or_u32 (a b : Nat) (ha : a < 4294967296) (hb : b < 4294967296) : bits .or .u32 (a : Int) (b : Int) = ((a ||| b : Nat) : Int) := by
  have hx : a ||| b < 2 ^ 32 := Nat.or_lt_two_pow (by omega) (by omega)
  have h1 : (BitVec.ofInt 32 (a : Int)).toNat = a := by
    rw [BitVec.ofInt_natCast, BitVec.toNat_ofNat]; exact Nat.mod_eq_of_lt (by omega)
  have h2 : (BitVec.ofInt 32 (b : Int)).toNat = b := by
    rw [BitVec.ofInt_natCast, BitVec.toNat_ofNat]; exact Nat.mod_eq_of_lt (by omega)
  show IntKind.u32.wrap ((BitVec.ofInt 32 (a : Int) ||| BitVec.ofInt 32 (b : Int)).toNat : Int) = _
  rw [BitVec.toNat_or, h1, h2, IntKind.wrap_u32]
  omega
theorem xor_u32 (a b : Nat) (ha : a < 4294967296) (hb : b < 4294967296) : bits .xor .u32 (a : Int) (b : Int) = ((a ^^^ b : Nat) : Int) := by
  have hx : a ^^^ b < 2 ^ 32 := Nat.xor_lt_two_pow (by omega) (by omega)
  have h1 : (BitVec.ofInt 32 (a : Int)).toNat = a := by
    rw [BitVec.ofInt_natCast, BitVec.toNat_ofNat]; exact Nat.mod_eq_of_lt (by omega)
  have h2 : (BitVec.ofInt 32 (b : Int)).toNat = b := by
    rw [BitVec.ofInt_natCast, BitVec.toNat_ofNat]; exact Nat.mod_eq_of_lt (by omega)
  show IntKind.u32.wrap ((BitVec.ofInt 32 (a : Int) ^^^ BitVec.ofInt 32 (b : Int)).toNat : Int) = _
  rw [BitVec.toNat_xor, h1, h2, IntKind.wrap_u32]
  omega
theorem and_mask (b : Int) (k : Nat) (hk : k ≤ 32) (h0 : 0 ≤ b) (h1 : b ≤ 4294967295) : bits .and .u32 b ((2 ^ k - 1 : Nat) : Int) = b % ((2 ^ k : Nat) : Int) := by
  obtain ⟨n, rfl⟩ := Int.eq_ofNat_of_zero_le h0
  have hp : 2 ^ k ≤ 2 ^ 32 := Nat.pow_le_pow_right (by omega) hk
  have hp0 := Nat.two_pow_pos k
  rw [and_u32 n _ (by omega) (by omega), Nat.and_two_pow_sub_one_eq_mod]
  omega
theorem and31 (b : Int) (h0 : 0 ≤ b) (h1 : b ≤ 4294967295) : bits .and .u32 b 31 = b % 32 := and_mask b 5 (by omega) h0 h1
theorem mul_abs {a b : Int} {A B : Nat} (ha : a.natAbs ≤ A) (hb : b.natAbs ≤ B) : -((A * B : Nat) : Int) ≤ a * b ∧ a * b ≤ ((A * B : Nat) : Int) := by
  have := Nat.mul_le_mul ha hb
  rw [← Int.natAbs_mul] at this
  omega
theorem sg_zero {b : Int} (h0 : 0 ≤ b) (h1 : b ≤ 4294967295) : sg b = 0 ↔ b = 0 := by unfold sg; split <;> omega
theorem tdiv_in (a b : Int) (ha0 : -2147483648 ≤ a) (ha1 : a ≤ 2147483647) (h : b ≠ 0) (h' : b ≠ -1) : -2147483648 ≤ a.tdiv b ∧ a.tdiv b ≤ 2147483647 := by
  by_cases h1 : b = 1
  · subst h1
    rw [Int.tdiv_one]
    exact ⟨ha0, ha1⟩
  · have e := Int.natAbs_tdiv a b
    have e2 : a.natAbs / b.natAbs ≤ a.natAbs / 2 := Nat.div_le_div_left (by omega) (by omega)
    have e3 : a.natAbs.div b.natAbs = a.natAbs / b.natAbs := rfl
    omega
def divP (a b : Int) : Int × Int := if b = 0 then (-1, a) else if b = -1 then (wrap32 (-a), 0) else (a.tdiv b, a.tmod b)
theorem divP_q {a b : Int} (hb0 : 0 ≤ b) (hb1 : b ≤ 4294967295) : (divP (sg a) (sg b)).1 % 4294967296 = if b = 0 then 4294967295 else (sg a).tdiv (sg b) % 4294967296 := by
  have hz := sg_zero hb0 hb1
  unfold divP
  by_cases h : b = 0
  · rw [if_pos (hz.2 h), if_pos h]; rfl
  · rw [if_neg (fun e => h (hz.1 e)), if_neg h]
    split
    · rename_i e
      rw [e, Int.tdiv_neg, Int.tdiv_one]
      show wrap32 (-(sg a)) % 4294967296 = _
      unfold wrap32
      omega
    · rfl
theorem divP_r {a b : Int} (ha0 : 0 ≤ a) (ha1 : a ≤ 4294967295) (hb0 : 0 ≤ b) (hb1 : b ≤ 4294967295) : (divP (sg a) (sg b)).2 % 4294967296 = if b = 0 then a else (sg a).tmod (sg b) % 4294967296 := by
  have hz := sg_zero hb0 hb1
  unfold divP
  by_cases h : b = 0
  · rw [if_pos (hz.2 h), if_pos h]; exact sg_mod ha0 ha1
  · rw [if_neg (fun e => h (hz.1 e)), if_neg h]
    split
    · rename_i e
      rw [e, Int.tmod_neg, Int.tmod_one]
    · rfl
def quotP (op a b : Int) : Int :=
  if op = 42 then (if b = 0 then 4294967295 else (sg a).tdiv (sg b) % 4294967296)
  else if op = 44 then (if b = 0 then a else (sg a).tmod (sg b) % 4294967296)
  else if op = 43 then (if b = 0 then 4294967295 else a / b)
  else if op = 45 then (if b = 0 then a else a % b)
  else 0
end Go.Proofs.Ytapgojgcmlnbgab
