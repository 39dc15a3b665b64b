/- The walks of package decode: signed, of. -/
import Derived.Test.YtapgojgcmlnbgabKHS908
set_option linter.unusedSimpArgs false
set_option linter.unusedVariables false

namespace Go.Proofs.Ytapgojgcmlnbgab
open Go.RowKit

theorem signed_21 (x : Int) (w : World) (h0 : 0 ≤ x) (h1 : x < 2097152) :
    Calls Try.prog 78 #[.int .u32 x, .int .i64 21] w fun e w' => e = .returned (.int .i32 (sgnI x 21)) ∧ w = w' := by
  have HX := Lib.hid (show sgnI x 21 = if x < 1048576 then x else x - 2097152 by unfold sgnI; rw [show (2 : Int) ^ (21 - 1) = 1048576 by decide, show (2 : Int) ^ 21 = 2097152 by decide])
  go_enter Try.func78, Try.ntmps78
  go_wp2
  go_ret
  refine ⟨?_, rfl⟩
  rw [HX.out]
  refine ret_int ?_
  show wrap32 (x * 2048) / 2048 = if x < 1048576 then x else x - 2097152
  unfold wrap32
  split <;> omega
theorem signed_13 (x : Int) (w : World) (h0 : 0 ≤ x) (h1 : x < 8192) :
    Calls Try.prog 78 #[.int .u32 x, .int .i64 13] w fun e w' => e = .returned (.int .i32 (sgnI x 13)) ∧ w = w' := by
  have HX := Lib.hid (show sgnI x 13 = if x < 4096 then x else x - 8192 by unfold sgnI; rw [show (2 : Int) ^ (13 - 1) = 4096 by decide, show (2 : Int) ^ 13 = 8192 by decide])
  go_enter Try.func78, Try.ntmps78
  go_wp2
  go_ret
  refine ⟨?_, rfl⟩
  rw [HX.out]
  refine ret_int ?_
  show wrap32 (x * 524288) / 524288 = if x < 4096 then x else x - 8192
  unfold wrap32
  split <;> omega
theorem signed_12 (x : Int) (w : World) (h0 : 0 ≤ x) (h1 : x < 4096) :
    Calls Try.prog 78 #[.int .u32 x, .int .i64 12] w fun e w' => e = .returned (.int .i32 (sgnI x 12)) ∧ w = w' := by
  have HX := Lib.hid (show sgnI x 12 = if x < 2048 then x else x - 4096 by unfold sgnI; rw [show (2 : Int) ^ (12 - 1) = 2048 by decide, show (2 : Int) ^ 12 = 4096 by decide])
  go_enter Try.func78, Try.ntmps78
  go_wp2
  go_ret
  refine ⟨?_, rfl⟩
  rw [HX.out]
  refine ret_int ?_
  show wrap32 (x * 1048576) / 1048576 = if x < 2048 then x else x - 4096
  unfold wrap32
  split <;> omega
set_option maxRecDepth 100000 in
theorem up_any (op first form low mid : Int) (g g2 n : Nat) (w : World) (h0 : 0 ≤ op - first) (h1 : op - first < n) (h2 : 0 ≤ first) (h3 : op ≤ 100) (hg : w.cell? ⟨g, 0, none⟩ = some (.int .i64 op)) (hm : w.cell? ⟨g2, (op - first).toNat, none⟩ = some (.int .u32 mid)) :
    Calls Try.prog 77 #[.int .i64 first, .int .i64 form, .int .u32 low, .slice (some ⟨g2, 0, none⟩) n n, .pointer (some ⟨g, 0, none⟩)] w
      fun e w' => e = .returned (.tuple #[.agg #[.int .i64 form, .int .u32 low, .int .u32 mid, .int .u32 0], .bool true]) ∧ Below w.heap.size w w' := by
  obtain ⟨k, hk⟩ := Int.eq_ofNat_of_zero_le h0
  rw [hk] at hm h1
  simp only [Int.toNat_natCast] at hm
  have zg := World.block_lt_of_cell? _ _ hg
  have zm := World.block_lt_of_cell? _ _ hm
  dsimp only at zg zm
  go_enter Try.func77, Try.ntmps77
  go_wp2
  exact bodyPost_ret (v := .tuple #[.agg #[.int .i64 form, .int .u32 low, .int .u32 mid, .int .u32 0], .bool true]) (by simp [results, Try.results77, go_sem]) rfl ⟨rfl, (Below.refl _ _).alloc (Nat.le_refl _) _⟩
end Go.Proofs.Ytapgojgcmlnbgab
