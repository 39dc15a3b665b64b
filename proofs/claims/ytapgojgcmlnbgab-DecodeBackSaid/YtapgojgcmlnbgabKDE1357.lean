/- decode.Encode: what the forms share. -/
import Derived.Test.YtapgojgcmlnbgabKDE1355
import Derived.Test.YtapgojgcmlnbgabKDE1356
set_option linter.unusedSimpArgs false
set_option linter.unusedVariables false

namespace Go.Proofs.Ytapgojgcmlnbgab
open Go.RowKit

theorem or_range {a b : Int} (ha : 0 ≤ a ∧ a ≤ 4294967295) (hb : 0 ≤ b ∧ b ≤ 4294967295) : 0 ≤ bits .or .u32 a b ∧ bits .or .u32 a b ≤ 4294967295 := by
  obtain ⟨x, rfl⟩ := Int.eq_ofNat_of_zero_le ha.1
  obtain ⟨y, rfl⟩ := Int.eq_ofNat_of_zero_le hb.1
  rw [u32_or_nat x y (by omega) (by omega)]
  have := Nat.or_lt_two_pow (x := x) (y := y) (n := 32) (by omega) (by omega)
  omega
theorem andNot_range {a : Int} (ha : 0 ≤ a ∧ a ≤ 4294967295) : 0 ≤ bits .andNot .u32 a 4095 ∧ bits .andNot .u32 a 4095 ≤ 4294967295 := by
  rw [andNot12 a ha.1 ha.2]
  omega
theorem kind_form {op : Int} {k : Kind} (hk : kindP op = some k) : k.form = formOf op := by
  obtain ⟨o1, o2⟩ := kindP_range hk
  obtain ⟨k', hk', _, _, _, _, _, _, hf, _⟩ := kind_ok op o1 o2
  rw [hk] at hk'
  cases hk'
  exact hf
theorem isP_form {i : Ins} (h : IsP i = true) : (formOf i.op = 0 → i.rs1 = 0 ∧ i.rs2 = 0) ∧ (formOf i.op = 1 → i.rs1 = 0 ∧ i.rs2 = 0) ∧ (formOf i.op = 2 → i.rs2 = 0) ∧ (formOf i.op = 3 → i.rs2 = 0) ∧ (formOf i.op = 4 → i.rd = 0) ∧ (formOf i.op = 5 → i.rd = 0) ∧ (formOf i.op = 7 → i.rd = 0 ∧ i.rs1 = 0 ∧ i.rs2 = 0) := by
  unfold IsP at h
  split at h
  · unfold formOf
    by_cases c : i.op ≤ 2
    · rw [if_pos c] at h ⊢
      have := of_decide_eq_true h
      refine ⟨fun _ => ?_, fun _ => ?_, fun _ => ?_, fun _ => ?_, fun _ => ?_, fun _ => ?_, fun _ => ?_⟩ <;> omega
    rw [if_neg c] at h ⊢
    by_cases c1 : i.op = 3
    · rw [if_pos c1] at h ⊢
      have := of_decide_eq_true h
      refine ⟨fun _ => ?_, fun _ => ?_, fun _ => ?_, fun _ => ?_, fun _ => ?_, fun _ => ?_, fun _ => ?_⟩ <;> omega
    rw [if_neg c1] at h ⊢
    by_cases c2 : i.op = 4 ∨ (11 ≤ i.op ∧ i.op ≤ 15) ∨ (19 ≤ i.op ∧ i.op ≤ 24) ∨ i.op = 46
    · rw [if_pos c2] at h ⊢
      have := of_decide_eq_true h
      refine ⟨fun _ => ?_, fun _ => ?_, fun _ => ?_, fun _ => ?_, fun _ => ?_, fun _ => ?_, fun _ => ?_⟩ <;> omega
    rw [if_neg c2] at h ⊢
    by_cases c3 : 5 ≤ i.op ∧ i.op ≤ 10
    · rw [if_pos c3] at h ⊢
      have := of_decide_eq_true h
      refine ⟨fun _ => ?_, fun _ => ?_, fun _ => ?_, fun _ => ?_, fun _ => ?_, fun _ => ?_, fun _ => ?_⟩ <;> omega
    rw [if_neg c3] at h ⊢
    by_cases c4 : 16 ≤ i.op ∧ i.op ≤ 18
    · rw [if_pos c4] at h ⊢
      have := of_decide_eq_true h
      refine ⟨fun _ => ?_, fun _ => ?_, fun _ => ?_, fun _ => ?_, fun _ => ?_, fun _ => ?_, fun _ => ?_⟩ <;> omega
    rw [if_neg c4] at h ⊢
    by_cases c5 : 25 ≤ i.op ∧ i.op ≤ 27
    · rw [if_pos c5] at h ⊢
      have := of_decide_eq_true h
      refine ⟨fun _ => ?_, fun _ => ?_, fun _ => ?_, fun _ => ?_, fun _ => ?_, fun _ => ?_, fun _ => ?_⟩ <;> omega
    rw [if_neg c5] at h ⊢
    by_cases c6 : 28 ≤ i.op ∧ i.op ≤ 45
    · rw [if_pos c6] at h ⊢
      refine ⟨fun _ => ?_, fun _ => ?_, fun _ => ?_, fun _ => ?_, fun _ => ?_, fun _ => ?_, fun _ => ?_⟩ <;> omega
    rw [if_neg c6] at h ⊢
    have := of_decide_eq_true h
    refine ⟨fun _ => ?_, fun _ => ?_, fun _ => ?_, fun _ => ?_, fun _ => ?_, fun _ => ?_, fun _ => ?_⟩ <;> omega
  · cases h
/-- What Encode hands back. -/
def EncPost (w : World) (op rd rs1 rs2 imm : Int) (e : Ending) (w' : World) : Prop :=
  e = .returned (if IsP (Ins.mk op rd rs1 rs2 imm) = true then .tuple #[.int .u32 (encW (Ins.mk op rd rs1 rs2 imm)), .int .i64 0] else .tuple #[.int .u32 0, .int .i64 2]) ∧ Below w.heap.size w w'
theorem wpList_wanted' {P : Program} {ops : Array Oper} {Q : Exit → Act → World → Prop} {a : Act} {w : World} {rest : List Oper} {o : Oper} (hw : Region.wanted o (yielded ops a.tmps) = true)
    (h : ∀ K : Act → World → Prop, (∀ a w, wpList P ops Q rest a w → K a w) → o.wp P a w K Q) : wpList P ops Q (o :: rest) a w := by
  unfold wpList
  rw [if_pos hw]
  exact Or.inl (h _ fun _ _ h => h)
end Go.Proofs.Ytapgojgcmlnbgab
