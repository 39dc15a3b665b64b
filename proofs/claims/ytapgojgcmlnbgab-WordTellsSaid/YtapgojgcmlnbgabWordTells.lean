/- The laws WordTells and WordDivides, walked. -/
import Derived.Test.YtapgojgcmlnbgabWord
import Derived.Test.YtapgojgcmlnbgabRef1Alu
namespace Go.Proofs.Ytapgojgcmlnbgab
open Go.RowKit
set_option maxRecDepth 100000 in
theorem wordTells_walk (op a b : Int) (w : World) (ha0 : 0 ≤ a) (ha1 : a ≤ 4294967295) (hb0 : 0 ≤ b) (hb1 : b ≤ 4294967295) :
    Calls Try.prog 7 #[.int .i64 op, .int .u32 a, .int .u32 b] w fun e w' => e = .returned (.bool true) ∧ Below w.heap.size w w' := by
  generalize hX : aluP op a b = X
  have HX := Lib.hid hX
  clear hX
  generalize hY : holdsP op a b = Y
  have HY := Lib.hid hY
  clear hY
  have e1 : (X == X) = true := by simp
  have e2 : (Y == Y) = true := by simp
  go_enter Try.func7, Try.ntmps7
  go_wp2_with (first
    | (go_at_call 25; (with_reducible refine (alu_any op a b _ ha0 ha1 hb0 hb1).mono ?_); rintro e w1 ⟨rfl, hw1⟩; rw [HX.out])
    | (go_at_call 28; (with_reducible refine (holds_any op a b _ ha0 ha1 hb0 hb1).mono ?_); rintro e w2 ⟨rfl, rfl⟩; rw [HY.out])
    | (go_at_call 29; (with_reducible refine (refAlu_any op a b _ ha0 ha1 hb0 hb1).mono ?_); rintro e w3 ⟨rfl, hw3⟩; rw [HX.out])
    | (go_at_call 30; (with_reducible refine (refHolds_any op a b _ ha0 ha1 hb0 hb1).mono ?_); rintro e w4 ⟨rfl, rfl⟩; rw [HY.out]))
  go_ret
  exact ⟨by first | rfl | simp, hw1.trans (hw3.mono hw1.size)⟩
end Go.Proofs.Ytapgojgcmlnbgab
