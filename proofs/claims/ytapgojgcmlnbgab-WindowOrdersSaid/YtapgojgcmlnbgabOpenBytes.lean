/- How arguments read: bytes, integers; and the reach. -/
import Derived.Test.YtapgojgcmlnbgabMemPlain
import Derived.Test.YtapgojgcmlnbgabProg
import Derived.ProofKit
import Derived.OpenShut
import Derived.SizedLaws
namespace Go.Proofs.Ytapgojgcmlnbgab
open Go.ChangeShapes Go.WideShapes Go.RowKit
section
variable {H : Type} {enc : TypeId × Value → H} {w : World} {base : Nat} {spare : Nat → Bool} {held : Bool}

theorem open_intsAt {P : Program} {t e : TypeId} {k : IntKind} (ht : P.underlying t = some (.slice e)) (he : P.underlying e = some (.int k)) (hc : P.cellsOf e = 1) {fuel : Nat} {a : Option Addr} {len cap : Nat} {x : DataW H × List MemPlace}
    (h : DataW.trod enc P w base spare held fuel t [.slice a len cap] = some x) :
    ∃ l : List Int, l.length = len ∧ (∀ v ∈ l, (Lit.int k v).wf = true) ∧ IntsAt w w.heap.size k a l ∧ (a = none → l = []) ∧ (x.1 = .nil ∧ len = 0 ∨ ∃ es sp, x.1 = .slice es sp ∧ es.length = len) := by
  rcases open_ints ht he hc h with ⟨hcs, hx⟩ | ⟨ad, len', cap', zs, hcs, hb, hl, hm, hz, hx, hcell, hwz⟩
  · simp at hcs
    obtain ⟨rfl, rfl, rfl⟩ := hcs
    exact ⟨[], rfl, by simp, fun h => absurd rfl h, fun _ => rfl, .inl ⟨by rw [hx], rfl⟩⟩
  · simp at hcs
    obtain ⟨rfl, rfl, rfl⟩ := hcs
    have hlz : len ≤ zs.length := by rw [hz]; split <;> omega
    refine ⟨zs.take len, by simp; omega, fun v hv => hwz v (List.mem_of_mem_take hv), ?_, (fun h => by cases h), .inr ⟨_, _, by rw [hx], by simp [lits]; omega⟩⟩
    intro hne
    have h0 : 0 < len := by
      rcases Nat.eq_zero_or_pos len with h0 | h0
      · subst h0; simp at hne
      · exact h0
    obtain ⟨b, o, s⟩ := ad
    have hc0 := hcell 0 (by omega)
    have hs : s = none := by simpa [Addr.add] using World.cell?_spot hc0
    subst hs
    refine ⟨b, o, rfl, by simpa [Addr.add] using World.block_lt_of_cell? w _ hc0, fun i v hi => ?_⟩
    have hil : i < len := by
      have := (List.getElem?_eq_some_iff.1 hi).1
      simp at this
      omega
    have := hcell i (by omega)
    rw [Addr.add_lit] at this
    rw [this]
    have hv : zs[i]? = some v := by rw [← hi, List.getElem?_take, if_pos hil]
    simp [List.getD, hv]

theorem open_bytes {fuel : Nat} {a : Option Addr} {len cap : Nat} {x : DataW H × List MemPlace} (h : DataW.trod enc Try.prog w base spare held fuel 32 [.slice a len cap] = some x) :
    ∃ l : List Int, l.length = len ∧ Bytes l ∧ IntsAt w w.heap.size .u8 a l ∧ (a = none → l = []) ∧ (x.1 = .nil ∧ len = 0 ∨ ∃ es sp, x.1 = .slice es sp ∧ es.length = len) := by
  obtain ⟨l, h1, h2, h3⟩ := open_intsAt Try.underlying32 Try.underlying5 (by kernel_rfl) h
  exact ⟨l, h1, fun v hv => bounds_u8 (h2 v hv), h3⟩
end

/-- The form's own reach, of a slice. -/
theorem sized_len {H : Type} {P : Program} {ts : List TypeId} {ds : List (DataW H)} (h : (DataW.weightsEach P ts ds).all (· ≤ reachBytes) = true) {j : Nat} {t e : TypeId} {d : DataW H} {len nb : Nat} (ht : ts[j]? = some t) (hd : ds[j]? = some d) (hu : P.underlying t = some (.slice e))
    (hb : P.bytesOf e = nb) (hx : d = .nil ∧ len = 0 ∨ ∃ es sp, d = .slice es sp ∧ es.length = len) : len * nb ≤ 140737488351232 := by
  rcases hx with ⟨_, rfl⟩ | ⟨es, sp, rfl, rfl⟩
  · omega
  · have := sized_slice h ht hd hu
    rw [hb] at this
    have h2 : reachBytes = 140737488351232 := rfl
    rw [h2] at this
    exact Nat.le_trans (Nat.mul_le_mul_right nb (Nat.le_add_right _ _)) this
end Go.Proofs.Ytapgojgcmlnbgab
