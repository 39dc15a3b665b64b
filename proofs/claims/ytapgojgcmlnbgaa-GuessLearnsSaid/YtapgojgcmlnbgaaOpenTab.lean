/- How a table reads, handed over by value. -/
import Derived.Test.YtapgojgcmlnbgaaOpenFlat
import Derived.Test.YtapgojgcmlnbgaaGuessPlain
import Derived.Test.YtapgojgcmlnbgaaProg
namespace Go.Proofs.Ytapgojgcmlnbgaa
open Go
theorem TabOk.of_fits {cs : Array Value} (h : Fits tabKinds cs.toList) : TabOk cs := by
  have hs : cs.size = 64 := by have := h.length; simpa [tabKinds] using this
  have hg : ∀ i (hi : i < 64) k, tabKinds[i]? = some k → fitV k (cs[i]'(by omega)) := fun i hi k hk => h.get i k _ hk (by simp [show i < cs.size by omega])
  refine ⟨hs, fun k hk => ?_, fun k hk => ?_⟩
  · obtain ⟨t0, t1⟩ := tabKinds_cnt k hk
    obtain ⟨n0, e0, w0⟩ := hg _ (by omega) _ t0
    obtain ⟨n1, e1, w1⟩ := hg _ (by omega) _ t1
    simp only [Lit.wf, Bool.and_eq_true, decide_eq_true_eq] at w0 w1
    exact ⟨⟨n0, n1⟩, ⟨w0.1, w0.2, w1.1, w1.2⟩, by rw [Array.getElem?_eq_getElem (by omega), e0], by rw [Array.getElem?_eq_getElem (by omega), e1]⟩
  · obtain ⟨t0, t1, t2, t3⟩ := tabKinds_vl k hk
    obtain ⟨n0, e0, w0⟩ := hg _ (by omega) _ t0
    obtain ⟨n1, e1, w1⟩ := hg _ (by omega) _ t1
    obtain ⟨n2, e2, w2⟩ := hg _ (by omega) _ t2
    obtain ⟨n3, e3, w3⟩ := hg _ (by omega) _ t3
    simp only [Lit.wf, Bool.and_eq_true, decide_eq_true_eq] at w0 w1 w2 w3
    exact ⟨⟨n0, n1, n2, n3⟩, ⟨w0.1, w0.2, w1.1, w1.2, w2.1, w2.2, w3.1, w3.2⟩, by rw [Array.getElem?_eq_getElem (by omega), e0], by rw [Array.getElem?_eq_getElem (by omega), e1],
      by rw [Array.getElem?_eq_getElem (by omega), e2], by rw [Array.getElem?_eq_getElem (by omega), e3]⟩
theorem open_tab {H : Type} {enc : TypeId × Value → H} {w : World} {base : Nat} {spare : Nat → Bool} {held : Bool} {fuel : Nat} {cs : Array Value} {x : DataW H × List MemPlace}
    (h : DataW.trod enc Try.prog w base spare held fuel 38 (Value.agg cs).cells.toList = some x) : TabOk cs :=
  TabOk.of_fits (trod_fits 20 38 tabKinds fuel _ x (by kernel_rfl) h)
end Go.Proofs.Ytapgojgcmlnbgaa
