/- The walks of the reference of mem. -/
import Derived.Test.YtapgojgcmlnbgaaRef1Of
import Derived.Test.YtapgojgcmlnbgaaMemPlain
import Derived.Test.YtapgojgcmlnbgaaCloneBytes
import Derived.Deep.AppendLies
namespace Go.Proofs.Ytapgojgcmlnbgaa
open Go.RowKit

def refSizeI (op : Int) (st : Bool) : Int :=
  if st then (if op = 16 then 1 else if op = 17 then 2 else if op = 18 then 4 else 0)
  else (if op = 11 ∨ op = 14 then 1 else if op = 12 ∨ op = 15 then 2 else if op = 13 then 4 else 0)

theorem refSize_any (op : Int) (st : Bool) (w : World) :
    Calls Try.prog 59 #[.int .i64 op, .bool st] w fun e w' => e = .returned (.int .i64 (refSizeI op st)) ∧ w = w' := by
  generalize hx : refSizeI op st = x
  have Hx := Lib.hid hx
  clear hx
  cases st
  all_goals
    go_enter Try.func59, Try.ntmps59
    go_wp2
    all_goals
      go_ret
      refine ⟨ret_int ?_, rfl⟩
      rw [← Hx.out]
      unfold refSizeI
      simp only [beq_iff_eq, beq_eq_false_iff_ne, ne_eq, Bool.false_eq_true, if_true, if_false] at *
      (repeat' split) <;> first | rfl | omega

theorem refThere_any (A : Option Addr) (len cap : Nat) (p many : Int) (w : World) (h0 : 0 ≤ p) (h1 : p ≤ 4294967295) (h2 : 0 ≤ many) (h3 : many ≤ 4294967295) (_hl : len ≤ 9223372036854775807) :
    Calls Try.prog 60 #[.slice A len cap, .int .u32 p, .int .i64 many] w fun e w' => e = .returned (.bool (thereB len p many)) ∧ w = w' := by
  generalize hx : thereB len p many = x
  have Hx := Lib.hid hx
  clear hx
  go_enter Try.func60, Try.ntmps60
  go_wp2
  all_goals
    go_ret
    refine ⟨ret_bool ?_, rfl⟩
    rw [← Hx.out, Bool.eq_iff_iff]
    unfold thereB
    first | (simp; done) | (simp; omega) | (simp [*]; done) | (simp [*]; omega)

end Go.Proofs.Ytapgojgcmlnbgaa
