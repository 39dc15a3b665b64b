/- The law OrderWrongs, walked. -/
import Derived.Test.YtapgojgcmlnbgaaOrderWrong
import Derived.Test.YtapgojgcmlnbgaaRef9
namespace Go.Proofs.Ytapgojgcmlnbgaa
open Go.RowKit
set_option maxRecDepth 100000 in
set_option maxHeartbeats 400000 in
theorem orderWrongs_walk (A : Option Addr) (cap : Nat) (l : List Acc) (seq : Int) (w : World) (hl : l.length ≤ maxLen) (hwf : ∀ a ∈ l, a.Wf) (hA : AccsAt w w.heap.size A l) :
    Calls Try.prog 3 #[.slice A l.length cap, .int .i64 seq] w
      fun e w' => e = .returned (.bool true) ∧ Below w.heap.size w w' := by
  go_enter Try.func3, Try.ntmps3
  generalize hx : wrongP l seq = x
  have Hx := Lib.hid hx
  clear hx
  have e1 : (x.1 == x.1) = true := by simp
  have e2 : (x.2 == x.2) = true := by simp
  go_wp2_with (first
    | (go_at_call 13; refine (wrong_any A cap l seq _ hl hwf hA).mono ?_; rintro e w1 ⟨rfl, hb1⟩; rw [Hx.out])
    | (go_at_call 14; refine (refWrong_any A cap l seq _ hl hwf ((hA.below hb1).mono hb1.size)).mono ?_; rintro e w2 ⟨rfl, hb2⟩; rw [Hx.out]))
  go_ret
  refine ⟨ret_bool ?_, hb1.trans (hb2.mono hb1.size)⟩
  first | rfl | simp
end Go.Proofs.Ytapgojgcmlnbgaa
