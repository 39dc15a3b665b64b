/- humpyardref8.Cut. -/
import Derived.Test.YtapgojgcmlnbgabWindow8
namespace Go.Proofs.Ytapgojgcmlnbgab
open Go.RowKit

/-- What both Cut hand back. -/
def CutPost (w : World) (l : List Slt) (seq : Int) (e : Ending) (w' : World) : Prop :=
  Below w.heap.size w w' ∧ ∃ v u, e = .returned (.tuple #[v, u]) ∧ SlotsPost w (cutL l seq) v w' ∧ w'.ownsRow w.heap.size 3 1 u (cutO l seq).length ((cutO l seq).map (Value.int .i64))
theorem cutL_take (l : List Slt) (seq : Int) {k : Nat} (hk : k < l.length) : cutL (l.take (k + 1)) seq = if (l[k]'hk).seq < seq then cutL (l.take k) seq ++ [l[k]'hk] else cutL (l.take k) seq := by
  unfold cutL
  rw [List.take_succ_eq_append_getElem hk, List.filter_append]
  by_cases h : (l[k]'hk).seq < seq
  · rw [if_pos h]; simp [h]
  · rw [if_neg h]; simp [h]
/-- The numbers that go, of the last k. -/
def goneK (l : List Slt) (seq : Int) (k : Nat) : List Int := ((l.reverse.take k).filter fun s => decide (seq ≤ s.seq)).map (·.seq)
theorem goneK_succ (l : List Slt) (seq : Int) {k : Nat} (hk : k < l.length) (hj : l.length - 1 - k < l.length) : goneK l seq (k + 1) = if seq ≤ (l[l.length - 1 - k]'hj).seq then goneK l seq k ++ [(l[l.length - 1 - k]'hj).seq] else goneK l seq k := by
  unfold goneK
  have hr : k < l.reverse.length := by simpa using hk
  have he : l.reverse[k]'hr = l[l.length - 1 - k]'hj := by rw [List.getElem_reverse]
  rw [List.take_succ_eq_append_getElem hr, List.filter_append, he, List.map_append]
  by_cases h : seq ≤ (l[l.length - 1 - k]'hj).seq
  · rw [if_pos h]; simp [h]
  · rw [if_neg h]; simp [h]
theorem goneK_all (l : List Slt) (seq : Int) : goneK l seq l.length = cutO l seq := by
  unfold goneK
  rw [cutO_eq, List.take_of_length_le (by simp)]
end Go.Proofs.Ytapgojgcmlnbgab
