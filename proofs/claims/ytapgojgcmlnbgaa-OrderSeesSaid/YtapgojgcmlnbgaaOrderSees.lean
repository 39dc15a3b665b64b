/- The law OrderSees, walked. -/
import Derived.Test.YtapgojgcmlnbgaaRef9See
namespace Go.Proofs.Ytapgojgcmlnbgaa
open Go.RowKit
set_option maxRecDepth 100000 in
set_option maxHeartbeats 400000 in
theorem orderSees_walk (A : Option Addr) (cap : Nat) (l : List Acc) (A' : Option Addr) (cap' : Nat) (m : List Int) (seq p many : Int) (w : World) (hl : l.length ≤ 9223372036854775807) (hl' : m.length ≤ 9223372036854775807)
    (hwf : ∀ a ∈ l, a.Wf) (hm : Bytes m) (hA : AccsAt w w.heap.size A l) (hA' : IntsAt w w.heap.size .u8 A' m) (h0 : 0 ≤ p) (h1 : p ≤ 4294967295) :
    Calls Try.prog 4 #[.slice A l.length cap, .slice A' m.length cap', .int .i64 seq, .int .u32 p, .int .i64 many] w
      fun e w' => e = .returned (.bool true) ∧ Below w.heap.size w w' := by
  generalize hx : seeP l m seq p many = x
  have Hx := Lib.hid hx
  clear hx
  obtain ⟨x1, x2, x3⟩ := x
  have e1 : (x1 == x1) = true := by simp
  have e2 : (x2 == x2) = true := by simp
  have e3 : (x3 == x3) = true := by simp
  go_enter Try.func4, Try.ntmps4
  go_wp2_with (first
    | (go_at_call 15; refine (see_any A cap l A' cap' m seq p many _ hl hl' hwf hm hA hA' h0 h1).mono ?_; rintro e w1 ⟨rfl, hb1⟩; rw [Hx.out])
    | (go_at_call 16; refine (refSee_any A cap l A' cap' m seq p many _ hl hl' hwf hm ((hA.below hb1).mono hb1.size) ((hA'.below hb1).mono hb1.size) h0 h1).mono ?_; rintro e w2 ⟨rfl, hb2⟩; rw [Hx.out]))
  go_ret
  refine ⟨ret_bool ?_, hb1.trans (hb2.mono hb1.size)⟩
  first | rfl | simp
end Go.Proofs.Ytapgojgcmlnbgaa
