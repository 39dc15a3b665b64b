/- How arguments read: a slice of accesses, an access, bytes. -/
import Derived.Test.YtapgojgcmlnbgaaData
import Derived.Test.YtapgojgcmlnbgaaProg
import Derived.ProofKit
import Derived.OpenShut
import Derived.Deep.Slices
import Derived.Deep.Fields
namespace Go.Proofs.Ytapgojgcmlnbgaa
open Go.ChangeShapes Go.WideShapes Go.RowKit Go.Deep
section
variable {H : Type} {enc : TypeId × Value → H} {P : Program} {w : World} {base : Nat} {spare : Nat → Bool} {held : Bool}

/-- The cells of a struct of one-cell fields. -/
theorem trod_fields {t : TypeId} {fs : Array Field} {fuel : Nat} {cs : List Value} {x : DataW H × List MemPlace} (he : P.underlying t = some (.struct fs)) (hone : oneCellFields P fs = true) (hC : P.cellsOf t = fs.size)
    (h : DataW.trod enc P w base spare held fuel t cs = some x) :
    cs.length = fs.size ∧ ∃ n, ∀ (j : Nat) (f : Field), fs[j]? = some f → ∃ v y, cs[j]? = some v ∧ DataW.trod enc P w base spare held n f.type [v] = some y := by
  obtain ⟨ys, n, _, _, hlen, hyl, hf⟩ := DataW.trod_struct he h
  refine ⟨by rw [hlen, hC], n, fun j f hj => ?_⟩
  obtain ⟨ho, hk⟩ := hone_of hone j f hj
  have hjl : j < fs.size := (Array.getElem?_eq_some_iff.1 hj).1
  have hjc : j < cs.length := by omega
  have h1 := hf j f hj
  rw [ho, hk, List.drop_eq_getElem_cons hjc] at h1
  exact ⟨cs[j], ys[j]'(by omega), List.getElem?_eq_getElem hjc, by rw [List.getElem?_eq_getElem (by omega)] at h1; exact h1⟩
theorem okWide_agg {t : TypeId} {fs : Array Field} {r : Reach} {v : Value} (he : P.underlying t = some (.struct fs)) (h : Value.okWide P w r base t v) : ∃ cs, v = .agg cs := by
  unfold Value.okWide at h
  rw [he] at h
  obtain ⟨cs, hv, _⟩ := h
  exact ⟨cs, hv⟩
end

theorem accCells : Try.prog.cellsOf 72 = 7 := by kernel_rfl

section
variable {H : Type} {enc : TypeId × Value → H} {w : World} {base : Nat} {spare : Nat → Bool} {held : Bool}
/-- A row of cells that reads as an access. -/
theorem trod_acc {fuel : Nat} {cs : List Value} {x : DataW H × List MemPlace} (h : DataW.trod enc Try.prog w base spare held fuel 72 cs = some x) : ∃ a : Acc, a.Wf ∧ cs = a.cells.toList := by
  obtain ⟨hl, n, hf⟩ := trod_fields Try.underlying72 (by kernel_rfl) accCells h
  obtain ⟨v0, y0, e0, t0⟩ := hf 0 _ rfl
  obtain ⟨v1, y1, e1, t1⟩ := hf 1 _ rfl
  obtain ⟨v2, y2, e2, t2⟩ := hf 2 _ rfl
  obtain ⟨v3, y3, e3, t3⟩ := hf 3 _ rfl
  obtain ⟨v4, y4, e4, t4⟩ := hf 4 _ rfl
  obtain ⟨v5, y5, e5, t5⟩ := hf 5 _ rfl
  obtain ⟨v6, y6, e6, t6⟩ := hf 6 _ rfl
  obtain ⟨a0, h0, _, b0⟩ := DataW.trod_int Try.underlying3 t0
  obtain ⟨a1, h1, _⟩ := DataW.trod_bool Try.underlying4 t1
  obtain ⟨a2, h2, _⟩ := DataW.trod_bool Try.underlying4 t2
  obtain ⟨a3, h3, _, b3⟩ := DataW.trod_int Try.underlying27 t3
  obtain ⟨a4, h4, _, b4⟩ := DataW.trod_int Try.underlying3 t4
  obtain ⟨a5, h5, _, b5⟩ := DataW.trod_int Try.underlying27 t5
  obtain ⟨a6, h6, _⟩ := DataW.trod_bool Try.underlying4 t6
  simp only [List.cons.injEq, and_true] at h0 h1 h2 h3 h4 h5 h6
  subst h0 h1 h2 h3 h4 h5 h6
  refine ⟨⟨a0, a1, a2, a3, a4, a5, a6⟩, ⟨(bounds_u32 b3).1, (bounds_u32 b3).2, (bounds_u32 b5).1, (bounds_u32 b5).2, (bounds_i64 b0).1, (bounds_i64 b0).2, (bounds_i64 b4).1, (bounds_i64 b4).2⟩, ?_⟩
  have hl : cs.length = 7 := hl
  match cs, hl with
  | [c0, c1, c2, c3, c4, c5, c6], _ =>
    simp at e0 e1 e2 e3 e4 e5 e6
    subst e0 e1 e2 e3 e4 e5 e6
    rfl

/-- An access handed over by value. -/
theorem open_acc {fuel : Nat} {cs : Array Value} {x : DataW H × List MemPlace} (h : DataW.trod enc Try.prog w base spare held fuel 72 (Value.agg cs).cells.toList = some x) : ∃ a : Acc, a.Wf ∧ cs = a.cells := by
  obtain ⟨a, hwf, hc⟩ := trod_acc h
  exact ⟨a, hwf, Array.toList_inj.1 hc⟩

/-- A slice of accesses. -/
theorem open_accs {fuel : Nat} {a : Option Addr} {len cap : Nat} {x : DataW H × List MemPlace} (h : DataW.trod enc Try.prog w base spare held fuel 22 [.slice a len cap] = some x) :
    ∃ l : List Acc, l.length = len ∧ (∀ a ∈ l, a.Wf) ∧ AccsAt w w.heap.size a l ∧ len ≤ maxLen ∧ (x.1 = .nil ∧ len = 0 ∨ ∃ es sp, x.1 = .slice es sp ∧ es.length = len) := by
  rcases open_slice Try.underlying22 h with ⟨hcs, hx⟩ | ⟨ad, len', cap', m, n, D, Pl, hcs, hb, hl, hm, hmm, hx, hi⟩
  · simp at hcs
    obtain ⟨rfl, rfl, rfl⟩ := hcs
    exact ⟨[], rfl, by simp, fun h => absurd rfl h, by unfold maxLen; omega, .inl ⟨by rw [hx], rfl⟩⟩
  · simp at hcs
    obtain ⟨rfl, rfl, rfl⟩ := hcs
    have hlm : len ≤ m := by rw [hmm]; split <;> omega
    have hex : ∀ i, i < len → ∃ a : Acc, a.Wf ∧ w.cells? base (ad.add (i * 7)) 7 = some a.cells.toList := by
      intro i him
      obtain ⟨cs', hc, ht⟩ := hi i (by omega)
      rw [accCells] at hc
      obtain ⟨a, hwf, rfl⟩ := trod_acc ht
      exact ⟨a, hwf, hc⟩
    obtain ⟨F, hF⟩ := choose_lt hex
    refine ⟨(List.range len).map F, by simp, ?_, ?_, by omega, .inr ⟨_, _, by rw [hx], by simp⟩⟩
    · intro a ha
      obtain ⟨i, hi', rfl⟩ := List.mem_map.1 ha
      exact (hF i (List.mem_range.1 hi')).1
    · intro hne
      have hlen : 0 < len := by
        rcases Nat.eq_zero_or_pos len with h0 | h0
        · subst h0; simp at hne
        · exact h0
      obtain ⟨b, o, s⟩ := ad
      have hc0 := (World.cells?_some (hF 0 hlen).2).2.2 0 (by omega)
      have hc0' : w.cell? ⟨b, o, s⟩ = some (.int .i64 (F 0).seq) := by simpa [Addr.add] using hc0
      have hs : s = none := World.cell?_spot hc0'
      subst hs
      refine ⟨b, o, rfl, World.block_lt_of_cell? w _ hc0', ?_⟩
      intro k a hk
      have hkl : k < len := by
        have := (List.getElem?_eq_some_iff.1 hk).1
        simpa using this
      have ha : F k = a := by simpa [hkl] using hk
      have hcs := (World.cells?_some (hF k hkl).2).2.2
      rw [ha] at hcs
      have hadd : ∀ j, ((⟨b, o, none⟩ : Addr).add (k * 7)).add j = ⟨b, o + k * 7 + j, none⟩ := fun j => by
        rw [add_add]
        unfold Addr.add
        by_cases h0 : k * 7 + j = 0
        · rw [if_pos h0, show o + k * 7 + j = o by omega]
        · rw [if_neg h0, show o + (k * 7 + j) = o + k * 7 + j by omega]
      have g := fun j (hj : j < 7) => (congrArg w.cell? (hadd j)).symm.trans (hcs j hj)
      exact ⟨g 0 (by omega), g 1 (by omega), g 2 (by omega), g 3 (by omega), g 4 (by omega), g 5 (by omega), g 6 (by omega)⟩
end
end Go.Proofs.Ytapgojgcmlnbgaa
