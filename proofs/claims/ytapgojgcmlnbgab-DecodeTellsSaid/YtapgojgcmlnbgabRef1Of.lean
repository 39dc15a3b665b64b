/- The walks of the reference of reckoning: Of, Power, Signed. -/
import Derived.Test.YtapgojgcmlnbgabProg
import Derived.Test.YtapgojgcmlnbgabData
import Derived.WalkLawsBesides
import Derived.WalkSpells
import Derived.Lib.Hide
namespace Go.Proofs.Ytapgojgcmlnbgab
open Go.RowKit

theorem of_any (n : Int) (w : World) (h0 : -9223372036854775808 ≤ n) (h1 : n ≤ 9223372036854775807) :
    Calls Try.prog 59 #[.int .i64 n] w fun e w' => e = .returned (.int .u32 (n % 4294967296)) ∧ w = w' := by
  generalize hx : n % 4294967296 = x
  have Hx := Lib.hid hx
  clear hx
  by_cases hn : 0 ≤ n
  · go_enter Try.func59, Try.ntmps59
    go_wp2
    all_goals
      go_ret
      refine ⟨ret_int ?_, rfl⟩
      first | exact Hx.out | (rw [← Hx.out]; omega)
  · have hm : n.tmod 4294967296 = -((-n) % 4294967296) := by
      obtain ⟨k, rfl⟩ : ∃ k : Nat, n = -(k : Int) := ⟨(-n).toNat, by omega⟩
      rw [Int.neg_tmod, Int.neg_neg]
      rfl
    have hz : -4294967296 < n.tmod 4294967296 ∧ n.tmod 4294967296 ≤ 0 := by rw [hm]; omega
    have Hm := Lib.hid hm
    obtain ⟨z1, z2⟩ := hz
    clear hm
    go_enter Try.func59, Try.ntmps59
    go_wp2
    all_goals
      go_ret
      refine ⟨ret_int ?_, rfl⟩
      rw [← Hx.out]
      have hm := Hm.out
      have hr : n % 4294967296 = 4294967296 - ((-n) % 4294967296) ∨ (n % 4294967296 = 0 ∧ (-n) % 4294967296 = 0) := by omega
      generalize n.tmod 4294967296 = t at *
      omega

theorem power_any (k : Nat) (w : World) (hk : k ≤ 61) :
    Calls Try.prog 61 #[.int .i64 k] w fun e w' => e = .returned (.int .i64 (2 ^ k : Nat)) ∧ w = w' := by
  have key : ∀ j, j ≤ k → (2 ^ j : Nat) ≤ 2305843009213693952 := fun j hj => by
    have : (2 ^ j : Nat) ≤ 2 ^ 61 := Nat.pow_le_pow_right (by omega) (by omega)
    omega
  have Key := Lib.hid key
  clear key
  go_enter Try.func61, Try.ntmps61
  go_wp2_with fail
  go_loop [3, 4] (fun v3 v4 => ∃ (j p : Nat), v3 = .int .i64 p ∧ v4 = .int .i64 j ∧ j ≤ k ∧ Hid (p = 2 ^ j) ∧ p ≤ 2305843009213693952) (fun _ v4 => k - (intOf v4).toNat)
  case atStart => exact ⟨0, 1, rfl, rfl, by omega, rfl, by omega⟩
  case round =>
    obtain ⟨j, p, rfl, rfl, hj, Hp, hp⟩ := hrel
    by_cases hlt : j < k
    · go_wp2
      go_round
      case rel => exact ⟨j + 1, p + p, by go_num, by go_num, by omega, Lib.hid (by rw [Hp.out, Nat.pow_succ]; omega), by have := Key.out (j + 1) (by omega); rw [Nat.pow_succ, ← Hp.out] at this; omega⟩
      case measure => simp [intOf]; omega
    · obtain rfl : j = k := by omega
      go_wp2
      go_ret
      exact ⟨ret_int (by rw [Hp.out]; simp), rfl⟩
end Go.Proofs.Ytapgojgcmlnbgab
