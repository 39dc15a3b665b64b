/- DecodeTells, walked. -/
import Derived.Test.YtapgojgcmlnbgabRef2Dec
namespace Go.Proofs.Ytapgojgcmlnbgab
open Go.RowKit

set_option maxRecDepth 100000 in
set_option maxHeartbeats 1000000 in
theorem decodeTells_walk (x : Int) (w : World) (h0 : 0 ≤ x) (h1 : x ≤ 4294967295) :
    Calls Try.prog 6 #[.int .u32 x] w fun e w' => e = .returned (.bool true) ∧ Below w.heap.size w w' := by
  have C1 := fun W => decode_any x W h0 h1
  have C2 := fun W => rdec_any x W h0 h1
  generalize (decP x).getD insZ = i at C1 C2
  generalize (decP x).isSome = b at C1 C2
  have C1 := Lib.hid C1
  have C2 := Lib.hid C2
  have e1 : (b == b) = true := by simp
  go_enter Try.func6, Try.ntmps6
  go_wp2_with (first
    | (go_at_call 26; (with_reducible refine (C1.out _).mono ?_); rintro e w1 ⟨rfl, hb1⟩)
    | (refine wpList_store_all rfl 40 _ _ rfl w1.heap.size i.cells rfl rfl 40 _ (Blk.new w1 _ _) ins_info rfl ins_one ?_; intro w2 hI hg2)
    | (go_at_call 27; (with_reducible refine (C2.out _).mono ?_); rintro e w3 ⟨rfl, hb3⟩; have hI3 := hI.ext hb3)
    | (refine wpList_store_all rfl 40 _ _ rfl w3.heap.size i.cells rfl rfl 40 _ (Blk.new w3 _ _) ins_info rfl ins_one ?_; intro w4 hJ hg4; have hI4 := (hI3.alloc (.cells #[.int .i64 0, .int .i64 0, .int .i64 0, .int .i64 0, .int .i32 0] 40)).grown hg4 (by have := hI3.lt; simp; omega))
    | (refine wpList_load_all rfl 40 _ rfl w1.heap.size rfl 40 _ _ hI4 Try.underlying40 rfl ins_info ?_)
    | (refine wpList_load_all rfl 40 _ rfl w3.heap.size rfl 40 _ _ hJ Try.underlying40 rfl ins_info ?_))
  go_ret
  have hb2 : Below w1.heap.size w1 w2 := below_grown ((Below.refl _ w1).alloc (Nat.le_refl _) _) hg2 (by simp) (Nat.le_refl _)
  have hb4 : Below w3.heap.size w3 w4 := below_grown ((Below.refl _ w3).alloc (Nat.le_refl _) _) hg4 (by simp) (Nat.le_refl _)
  have h13 := hb2.trans (hb3.mono hb2.size)
  have h14 := h13.trans (hb4.mono h13.size)
  exact ⟨rfl, hb1.trans (h14.mono hb1.size)⟩
end Go.Proofs.Ytapgojgcmlnbgab
