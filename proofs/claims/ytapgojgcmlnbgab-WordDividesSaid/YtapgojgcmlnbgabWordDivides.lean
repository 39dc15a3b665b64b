/- The law WordDivides, walked. -/
import Derived.Test.YtapgojgcmlnbgabWord
namespace Go.Proofs.Ytapgojgcmlnbgab
open Go.RowKit
theorem mod_mod32 (x : Int) : x % 4294967296 % 4294967296 = x % 4294967296 := by omega
theorem sg_mod' (x : Int) : sg x % 4294967296 = x % 4294967296 := by unfold sg; split <;> omega
theorem divides_u (a b : Int) (ha0 : 0 ≤ a) (ha1 : a ≤ 4294967295) : (a / b * b % 4294967296 + a % b) % 4294967296 = a := by
  rw [Int.emod_add_emod, show a / b * b + a % b = a from by rw [Int.mul_comm]; exact Int.mul_ediv_add_emod a b]
  omega
theorem divides_s (a b : Int) (ha0 : 0 ≤ a) (ha1 : a ≤ 4294967295) : ((sg a).tdiv (sg b) % 4294967296 * b % 4294967296 + (sg a).tmod (sg b) % 4294967296) % 4294967296 = a := by
  have h : (sg a).tdiv (sg b) % 4294967296 * b % 4294967296 = (sg a).tdiv (sg b) * sg b % 4294967296 := by
    rw [Int.mul_emod, mod_mod32, ← sg_mod' b, ← Int.mul_emod]
  rw [h, Int.add_emod, mod_mod32, mod_mod32, ← Int.add_emod, show (sg a).tdiv (sg b) * sg b + (sg a).tmod (sg b) = sg a from Int.tdiv_mul_add_tmod (sg a) (sg b), sg_mod ha0 ha1]
set_option maxRecDepth 100000 in
theorem wordDivides_walk (a b : Int) (w : World) (ha0 : 0 ≤ a) (ha1 : a ≤ 4294967295) (hb0 : 0 ≤ b) (hb1 : b ≤ 4294967295) :
    Calls Try.prog 5 #[.int .u32 a, .int .u32 b] w fun e w' => e = .returned (.bool true) ∧ Below w.heap.size w w' := by
  by_cases hz : b = 0
  · subst hz
    have H43 := Lib.hid (show aluP 43 a 0 = 4294967295 from rfl)
    have H45 := Lib.hid (show aluP 45 a 0 = a from rfl)
    have H42 := Lib.hid (show aluP 42 a 0 = 4294967295 from rfl)
    have H44 := Lib.hid (show aluP 44 a 0 = a from rfl)
    have e1 : (a == a) = true := by simp
    have hbb := Below.refl w.heap.size w
    go_enter Try.func5, Try.ntmps5
    go_wp2_with (go_at_call 25; (with_reducible refine (alu_any _ a 0 _ ha0 ha1 hb0 hb1).mono ?_); rintro e w1 ⟨rfl, hb⟩; have hbb := hbb.trans (hb.mono hbb.size); (first | rw [H43.out] | rw [H45.out] | rw [H42.out] | rw [H44.out]))
    go_ret
    exact ⟨rfl, hbb⟩
  · have q0 := Int.ediv_nonneg ha0 (show 0 ≤ b by omega)
    have q1 := Int.ediv_le_self b ha0
    have r0 := Int.emod_nonneg a hz
    have r1 := Int.emod_lt_of_pos a (show 0 < b by omega)
    have H43 := Lib.hid (show aluP 43 a b = a / b from if_neg hz)
    have H45 := Lib.hid (show aluP 45 a b = a % b from if_neg hz)
    have H42 := Lib.hid (show aluP 42 a b = (sg a).tdiv (sg b) % 4294967296 from if_neg hz)
    have H44 := Lib.hid (show aluP 44 a b = (sg a).tmod (sg b) % 4294967296 from if_neg hz)
    have H28 := Lib.hid (divides_u a b ha0 ha1)
    have H28s := Lib.hid (divides_s a b ha0 ha1)
    have s0 : 0 ≤ (sg a).tdiv (sg b) % 4294967296 ∧ (sg a).tdiv (sg b) % 4294967296 ≤ 4294967295 := by omega
    have t0 : 0 ≤ (sg a).tmod (sg b) % 4294967296 ∧ (sg a).tmod (sg b) % 4294967296 ≤ 4294967295 := by omega
    obtain ⟨s0, s1⟩ := s0
    obtain ⟨t0, t1⟩ := t0
    generalize a / b = q at q0 q1 H43 H28
    generalize a % b = r at r0 r1 H45 H28
    generalize (sg a).tdiv (sg b) % 4294967296 = s at s0 s1 H42 H28s
    generalize (sg a).tmod (sg b) % 4294967296 = t at t0 t1 H44 H28s
    have H38 := Lib.hid (show aluP 38 q b = q * b % 4294967296 from rfl)
    have H38s := Lib.hid (show aluP 38 s b = s * b % 4294967296 from rfl)
    have u0 : 0 ≤ q * b % 4294967296 ∧ q * b % 4294967296 ≤ 4294967295 := by omega
    have v0 : 0 ≤ s * b % 4294967296 ∧ s * b % 4294967296 ≤ 4294967295 := by omega
    obtain ⟨u0, u1⟩ := u0
    obtain ⟨v0, v1⟩ := v0
    generalize q * b % 4294967296 = u at u0 u1 H38 H28
    generalize s * b % 4294967296 = v at v0 v1 H38s H28s
    have H2 := Lib.hid (show aluP 28 u r = a from H28.out)
    have H3 := Lib.hid (show aluP 28 v t = a from H28s.out)
    have H32 := Lib.hid (show aluP 32 r b = 1 from if_pos r1)
    have e1 : (a == a) = true := by simp
    have e2 : decide (r < b) = true := by simp [r1]
    have hbb := Below.refl w.heap.size w
    go_enter Try.func5, Try.ntmps5
    go_wp2_with (go_at_call 25; (with_reducible refine (alu_any _ _ _ _ (by omega) (by omega) (by omega) (by omega)).mono ?_); rintro e w1 ⟨rfl, hb⟩; have hbb := hbb.trans (hb.mono hbb.size); (first | rw [H43.out] | rw [H45.out] | rw [H42.out] | rw [H44.out] | rw [H38.out] | rw [H38s.out] | rw [H2.out] | rw [H3.out] | rw [H32.out]))
    go_ret
    exact ⟨rfl, hbb⟩
end Go.Proofs.Ytapgojgcmlnbgab
