/- How a struct or array of bools and integers reads, handed over by value: the kinds of its cells. -/
import Derived.Test.YtapgojgcmlnbgaaFlat
import Derived.ProofKit
import Derived.OpenShut
import Derived.ChangeArms
namespace Go.Proofs.Ytapgojgcmlnbgaa
open Go

def openB (P : Program) : Nat → TypeId → List (Option IntKind) → Bool
  | 0, _, _ => false
  | d + 1, t, ks =>
    match P.underlying t with
    | some .bool => ks == [none]
    | some (.int q) => ks == [some q]
    | some (.array n e) => ks.length == P.cellsOf t && P.cellsOf t == n * P.cellsOf e && (List.range n).all fun i => openB P d e ((ks.drop (i * P.cellsOf e)).take (P.cellsOf e))
    | some (.struct fs) => ks.length == P.cellsOf t && (List.range (P.cellsOf t)).all (fun j => fs.toList.any fun f => decide (f.offset ≤ j) && decide (j < f.offset + P.cellsOf f.type)) &&
        fs.toList.all fun f => openB P d f.type ((ks.drop f.offset).take (P.cellsOf f.type))
    | _ => false
section
variable {H : Type} {enc : TypeId × Value → H} {P : Program} {w : World} {base : Nat} {spare : Nat → Bool} {held : Bool}
theorem trod_fits : ∀ (d : Nat) (t : TypeId) (ks : List (Option IntKind)) (fuel : Nat) (cs : List Value) (x : DataW H × List MemPlace), openB P d t ks = true → DataW.trod enc P w base spare held fuel t cs = some x → Fits ks cs
  | 0, _, _, _, _, _, h, _ => by simp [openB] at h
  | d + 1, t, ks, fuel, cs, x, h, ht => by
    unfold openB at h
    cases hu : P.underlying t with
    | none => rw [hu] at h; simp at h
    | some kd =>
      rw [hu] at h
      cases kd <;> simp only [Bool.false_eq_true] at h
      case bool =>
        simp at h
        subst h
        obtain ⟨b, rfl, _⟩ := DataW.trod_bool hu ht
        exact ⟨⟨b, rfl⟩, trivial⟩
      case int q =>
        simp at h
        subst h
        obtain ⟨n, rfl, _, hw⟩ := DataW.trod_int hu ht
        exact ⟨⟨n, rfl, hw⟩, trivial⟩
      case array n e =>
        simp only [Bool.and_eq_true, beq_iff_eq, List.all_eq_true] at h
        obtain ⟨⟨hl, hc⟩, hall⟩ := h
        obtain ⟨xs, m, _, _, hcs, hxs, hi⟩ := DataW.trod_array hu ht
        refine Fits.mk (by omega) fun i k v hk hv => ?_
        have hin : i < n * P.cellsOf e := by have := (List.getElem?_eq_some_iff.1 hv).1; omega
        have hpos : 0 < P.cellsOf e := by
          rcases Nat.eq_zero_or_pos (P.cellsOf e) with h0 | h0
          · rw [h0] at hin; simp at hin
          · exact h0
        have hq : i / P.cellsOf e < n := (Nat.div_lt_iff_lt_mul hpos).2 hin
        have hm := Nat.mod_lt i hpos
        have hdm := Nat.div_add_mod' i (P.cellsOf e)
        have hx := hi (i / P.cellsOf e) hq
        rw [List.getElem?_eq_getElem (by omega)] at hx
        have hf := trod_fits d e _ m _ _ (hall (i / P.cellsOf e) (List.mem_range.2 hq)) hx
        refine hf.get (i % P.cellsOf e) k v ?_ ?_
        · rw [List.getElem?_take, if_pos hm, List.getElem?_drop, hdm]; exact hk
        · rw [List.getElem?_take, if_pos hm, List.getElem?_drop, hdm]; exact hv
      case struct fs =>
        simp only [Bool.and_eq_true, beq_iff_eq, List.all_eq_true] at h
        obtain ⟨⟨hl, hc⟩, hall⟩ := h
        obtain ⟨xs, m, _, _, hcs, hxs, hi⟩ := DataW.trod_struct hu ht
        refine Fits.mk (by omega) fun i k v hk hv => ?_
        have hin : i < P.cellsOf t := by have := (List.getElem?_eq_some_iff.1 hv).1; omega
        have hcov := hc i (List.mem_range.2 hin)
        rw [List.any_eq_true] at hcov
        obtain ⟨f, hf, hb⟩ := hcov
        simp only [Bool.and_eq_true, decide_eq_true_eq] at hb
        obtain ⟨j, hj, hfj⟩ := List.getElem_of_mem hf
        have hj' : j < fs.size := by simpa using hj
        have hfe : fs[j]? = some f := by
          rw [Array.getElem?_eq_getElem hj']
          simpa using hfj
        have hx := hi j f hfe
        rw [List.getElem?_eq_getElem (by omega)] at hx
        have hff := trod_fits d f.type _ m _ _ (hall f hf) hx
        refine hff.get (i - f.offset) k v ?_ ?_
        · rw [List.getElem?_take, if_pos (by omega), List.getElem?_drop, show f.offset + (i - f.offset) = i by omega]; exact hk
        · rw [List.getElem?_take, if_pos (by omega), List.getElem?_drop, show f.offset + (i - f.offset) = i by omega]; exact hv
end
end Go.Proofs.Ytapgojgcmlnbgaa
