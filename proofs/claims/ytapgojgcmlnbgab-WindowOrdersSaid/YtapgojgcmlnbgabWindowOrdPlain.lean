/- What WindowOrders looks at, in plain Lean. -/
import Derived.Test.YtapgojgcmlnbgabWindowPlain
namespace Go.Proofs.Ytapgojgcmlnbgab
open Go

theorem rises_at {l : List Slt} {last next : Int} (h : Rises l last next) {i j : Nat} (hij : i < j) (hj : j < l.length) : (l[i]'(by omega)).seq < (l[j]'hj).seq := by
  have h1 := h.rise
  rw [List.pairwise_iff_getElem] at h1
  have := h1 i j (by simp; omega) (by simpa using hj) hij
  simpa using this
/-- The last number, when k of them have gone. -/
def lastP (last : Int) (I : List Int) : Nat → Int
  | 0 => last
  | k + 1 => I.getD k 0
theorem popI_at (l : List Slt) (p k : Nat) (hk : k < p) (hp : p ≤ l.length) : ((l.take p).map (·.seq)).getD k 0 = (l[k]'(by omega)).seq := by
  rw [List.getD_eq_getElem?_getD, List.getElem?_map, List.getElem?_take, if_pos hk, List.getElem?_eq_getElem (by omega)]
  rfl
theorem rises_last {l : List Slt} {last next : Int} (h : Rises l last next) {p k : Nat} (hk : k < p) (hp : p ≤ l.length) : lastP last ((l.take p).map (·.seq)) k < ((l.take p).map (·.seq)).getD k 0 := by
  rw [popI_at l p k hk hp]
  cases k with
  | zero => exact h.lo _ (List.getElem_mem _)
  | succ k =>
    show ((l.take p).map (·.seq)).getD k 0 < _
    rw [popI_at l p k (by omega) hp]
    exact rises_at h (by omega) (by omega)
theorem rises_hi {l : List Slt} {last next : Int} (h : Rises l last next) (hn : last < next) {p k : Nat} (hk : k ≤ p) (hp : p ≤ l.length) : last ≤ lastP last ((l.take p).map (·.seq)) k ∧ lastP last ((l.take p).map (·.seq)) k < next := by
  cases k with
  | zero => exact ⟨Int.le_refl _, hn⟩
  | succ k =>
    show _ ≤ ((l.take p).map (·.seq)).getD k 0 ∧ ((l.take p).map (·.seq)).getD k 0 < _
    rw [popI_at l p k (by omega) hp]
    exact ⟨Int.le_of_lt (h.lo _ (List.getElem_mem _)), h.hi _ (List.getElem_mem _)⟩
theorem rises_drop {l : List Slt} {last next : Int} (h : Rises l last next) {p : Nat} (hp : p ≤ l.length) : Rises (l.drop p) (lastP last ((l.take p).map (·.seq)) p) next := by
  have hs := h.sub (List.drop_sublist p l)
  refine ⟨hs.rise, fun s hm => ?_, hs.hi⟩
  cases p with
  | zero => exact h.lo s (by simpa using hm)
  | succ p =>
    show ((l.take (p + 1)).map (·.seq)).getD p 0 < _
    rw [popI_at l (p + 1) p (by omega) hp]
    obtain ⟨j, hj, rfl⟩ := List.getElem_of_mem hm
    rw [List.length_drop] at hj
    rw [List.getElem_drop]
    exact rises_at h (by omega) (by omega)
theorem cutO_ge (l : List Slt) (seq : Int) (k : Nat) (hk : k < (cutO l seq).length) : seq ≤ (cutO l seq).getD k 0 := by
  have hm : (cutO l seq)[k]'hk ∈ cutO l seq := List.getElem_mem _
  rw [List.getD_eq_getElem?_getD, List.getElem?_eq_getElem hk, Option.getD_some]
  generalize (cutO l seq)[k]'hk = x at hm
  unfold cutO at hm
  simp at hm
  obtain ⟨s, ⟨_, h1⟩, rfl⟩ := hm
  exact h1
theorem cutO_desc {l : List Slt} {last next : Int} (h : Rises l last next) (seq : Int) (k : Nat) (hk : k + 1 < (cutO l seq).length) : (cutO l seq).getD (k + 1) 0 < (cutO l seq).getD k 0 := by
  have h1 : (cutO l seq).Pairwise (fun a b => b < a) := by
    unfold cutO
    rw [List.pairwise_reverse]
    exact h.rise.sublist (List.filter_sublist.map _)
  rw [List.pairwise_iff_getElem] at h1
  have := h1 k (k + 1) (by omega) hk (by omega)
  rw [List.getD_eq_getElem?_getD, List.getElem?_eq_getElem hk, List.getD_eq_getElem?_getD, List.getElem?_eq_getElem (by omega)]
  exact this
theorem cutL_sub (l : List Slt) (seq : Int) : (cutL l seq).Sublist l := List.filter_sublist
end Go.Proofs.Ytapgojgcmlnbgab
