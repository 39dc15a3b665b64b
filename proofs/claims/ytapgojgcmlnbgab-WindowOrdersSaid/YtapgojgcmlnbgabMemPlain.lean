/- What package mem comes to, in plain Lean. -/
import Derived.Test.YtapgojgcmlnbgabData
namespace Go.Proofs.Ytapgojgcmlnbgab

def thereB (len : Nat) (at_ many : Int) : Bool := decide (0 < many) && decide (at_ % many = 0) && decide (at_ + many ≤ len)
def sizeI (op : Int) : Int := if op = 11 ∨ op = 14 ∨ op = 16 then 1 else if op = 12 ∨ op = 15 ∨ op = 17 then 2 else if op = 13 ∨ op = 18 then 4 else 0
/-- What a load comes to, by its bytes. -/
def loadB (op x0 x1 x2 x3 : Int) : Int :=
  if op = 11 then (if x0 < 128 then x0 else x0 + 4294967040)
  else if op = 12 then (if x0 + 256 * x1 < 32768 then x0 + 256 * x1 else x0 + 256 * x1 + 4294901760)
  else if op = 13 then x0 + 256 * x1 + 65536 * x2 + 16777216 * x3
  else if op = 14 then x0
  else x0 + 256 * x1
def loadW (m : List Int) (op : Int) (n : Nat) : Int := loadB op (m.getD n 0) (m.getD (n + 1) 0) (m.getD (n + 2) 0) (m.getD (n + 3) 0)
/-- Load. -/
def loadP (m : List Int) (op at_ : Int) : Int × Bool :=
  if (decide (11 ≤ op) && decide (op ≤ 15) && thereB m.length at_ (sizeI op)) = true then (loadW m op at_.toNat, true) else (0, false)
/-- The bytes behind a store of n bytes. -/
def put1 (m : List Int) (n : Nat) (w : Int) : List Int := m.set n (w % 256)
def put2 (m : List Int) (n : Nat) (w : Int) : List Int := (put1 m n w).set (n + 1) (w / 256 % 256)
def put4 (m : List Int) (n : Nat) (w : Int) : List Int := ((put2 m n w).set (n + 2) (w / 65536 % 256)).set (n + 3) (w / 16777216 % 256)
def putW (m : List Int) (op : Int) (n : Nat) (w : Int) : List Int := if op = 16 then put1 m n w else if op = 17 then put2 m n w else put4 m n w
def storeOk (len : Nat) (op at_ : Int) : Bool := decide (16 ≤ op) && decide (op ≤ 18) && thereB len at_ (sizeI op)

def Bytes (m : List Int) : Prop := ∀ b ∈ m, 0 ≤ b ∧ b ≤ 255
theorem Bytes.getD {m : List Int} (h : Bytes m) (i : Nat) : 0 ≤ m.getD i 0 ∧ m.getD i 0 ≤ 255 := by
  rw [List.getD]
  cases hi : m[i]? with
  | none => simp
  | some v => exact h v (List.mem_of_getElem? hi)

theorem wrap_i8 (n : Int) : IntKind.i8.wrap n = (n + 128) % 256 - 128 := by
  simp [IntKind.wrap, IntKind.bits, IntKind.signed]
  split <;> omega
theorem wrap_i16 (n : Int) : IntKind.i16.wrap n = (n + 32768) % 65536 - 32768 := by
  simp [IntKind.wrap, IntKind.bits, IntKind.signed]
  split <;> omega

theorem u32_or_shift (x b : Int) (k : Nat) (hk : k ≤ 31) (hx0 : 0 ≤ x) (hx : x < ((2 ^ k : Nat) : Int)) (hb0 : 0 ≤ b) (hb : b * ((2 ^ k : Nat) : Int) < 4294967296) : bits .or .u32 x (b * ((2 ^ k : Nat) : Int)) = x + b * ((2 ^ k : Nat) : Int) := by
  obtain ⟨a, rfl⟩ := Int.eq_ofNat_of_zero_le hx0
  obtain ⟨c, rfl⟩ := Int.eq_ofNat_of_zero_le hb0
  have ha : a < 2 ^ k := Int.ofNat_lt.mp hx
  have hc : c * 2 ^ k < 4294967296 := Int.ofNat_lt.mp (by rw [Int.natCast_mul]; exact hb)
  have hpow : 2 ^ k ≤ 2 ^ 31 := Nat.pow_le_pow_right (by omega) hk
  have h := Nat.two_pow_add_eq_or_of_lt ha c
  have e : ((c : Int) * ((2 ^ k : Nat) : Int)) = ((c * 2 ^ k : Nat) : Int) := by rw [Int.natCast_mul]
  rw [e, u32_or_nat a (c * 2 ^ k) (by omega) hc, Nat.or_comm, Nat.mul_comm c, ← h]
  omega
theorem or8 (x b : Int) (hx0 : 0 ≤ x) (hx : x < 256) (hb0 : 0 ≤ b) (hb : b ≤ 255) : bits .or .u32 x (b * 256) = x + 256 * b := by
  have := u32_or_shift x b 8 (by omega) hx0 (by simpa using hx) hb0 (by simp; omega)
  simp at this
  rw [this]; omega
theorem or16 (x b : Int) (hx0 : 0 ≤ x) (hx : x < 65536) (hb0 : 0 ≤ b) (hb : b ≤ 255) : bits .or .u32 x (b * 65536) = x + 65536 * b := by
  have := u32_or_shift x b 16 (by omega) hx0 (by simpa using hx) hb0 (by simp; omega)
  simp at this
  rw [this]; omega
theorem or24 (x b : Int) (hx0 : 0 ≤ x) (hx : x < 16777216) (hb0 : 0 ≤ b) (hb : b ≤ 255) : bits .or .u32 x (b * 16777216) = x + 16777216 * b := by
  have := u32_or_shift x b 24 (by omega) hx0 (by simpa using hx) hb0 (by simp; omega)
  simp at this
  rw [this]; omega
theorem or0 (b : Int) (hb0 : 0 ≤ b) (hb : b ≤ 255) : bits .or .u32 0 b = b := by
  have := u32_or_shift 0 b 0 (by omega) (by omega) (by simp) hb0 (by simp; omega)
  simpa using this
end Go.Proofs.Ytapgojgcmlnbgab
